/- The truths, one after another: what is gone through, and who goes through it. No condition. -/
import Derived.Test.YtfbbnkaahnpicaaZ1
import Derived.Test.YtfbbnkaahnpicaaFz
open Go Go.Pg Go.Proofs
namespace Go.Pg
@[simp] theorem envA_cy {P:Program} {A:Ann} {kn:CF0} {n:Nat}:(envA P A kn n).cy = yldX (execA P A kn n):=rfl
end Go.Pg
namespace Go.Proofs.Try.Op
set_option maxRecDepth 100000
set_option linter.unusedSimpArgs false
/-! ### Types of functions -/
@[simp] theorem cells_109:Try.prog.cellsOf 109 = 1:=by kernel_rfl
@[simp] theorem bytes_109:Try.prog.bytesOf 109 = 8:=by kernel_rfl
@[simp] theorem zero_109:zeroC Try.prog 109 = some [Go.Pg.V.raw Go.Value.nilFunc]:=by kernel_rfl
@[simp] theorem zok_109:zOk Try.prog 109 = true:=by kernel_rfl
@[simp] theorem whole_109 (cs:List V):whole Try.prog 109 cs = cs[0]?:=by kernel_rfl
@[simp] theorem part_109 (cs:List V) (o:Nat):partV Try.prog 109 cs o = cs[o]?:=by kernel_rfl
@[simp] theorem cells_119:Try.prog.cellsOf 119 = 1:=by kernel_rfl
@[simp] theorem bytes_119:Try.prog.bytesOf 119 = 8:=by kernel_rfl
@[simp] theorem zero_119:zeroC Try.prog 119 = some [Go.Pg.V.raw Go.Value.nilFunc]:=by kernel_rfl
@[simp] theorem zok_119:zOk Try.prog 119 = true:=by kernel_rfl
@[simp] theorem whole_119 (cs:List V):whole Try.prog 119 cs = cs[0]?:=by kernel_rfl
@[simp] theorem part_119 (cs:List V) (o:Nat):partV Try.prog 119 cs o = cs[o]?:=by kernel_rfl
@[simp] theorem cells_123:Try.prog.cellsOf 123 = 1:=by kernel_rfl
@[simp] theorem bytes_123:Try.prog.bytesOf 123 = 8:=by kernel_rfl
@[simp] theorem zero_123:zeroC Try.prog 123 = some [Go.Pg.V.raw Go.Value.nilFunc]:=by kernel_rfl
@[simp] theorem zok_123:zOk Try.prog 123 = true:=by kernel_rfl
@[simp] theorem whole_123 (cs:List V):whole Try.prog 123 cs = cs[0]?:=by kernel_rfl
@[simp] theorem part_123 (cs:List V) (o:Nat):partV Try.prog 123 cs o = cs[o]?:=by kernel_rfl
@[simp] theorem cells_124:Try.prog.cellsOf 124 = 1:=by kernel_rfl
@[simp] theorem bytes_124:Try.prog.bytesOf 124 = 8:=by kernel_rfl
@[simp] theorem zero_124:zeroC Try.prog 124 = some [Go.Pg.V.raw Go.Value.nilFunc]:=by kernel_rfl
@[simp] theorem zok_124:zOk Try.prog 124 = true:=by kernel_rfl
@[simp] theorem whole_124 (cs:List V):whole Try.prog 124 cs = cs[0]?:=by kernel_rfl
@[simp] theorem part_124 (cs:List V) (o:Nat):partV Try.prog 124 cs o = cs[o]?:=by kernel_rfl
@[simp] theorem cells_144:Try.prog.cellsOf 144 = 1:=by kernel_rfl
@[simp] theorem bytes_144:Try.prog.bytesOf 144 = 8:=by kernel_rfl
@[simp] theorem zero_144:zeroC Try.prog 144 = some [Go.Pg.V.raw Go.Value.nilFunc]:=by kernel_rfl
@[simp] theorem zok_144:zOk Try.prog 144 = true:=by kernel_rfl
@[simp] theorem whole_144 (cs:List V):whole Try.prog 144 cs = cs[0]?:=by kernel_rfl
@[simp] theorem part_144 (cs:List V) (o:Nat):partV Try.prog 144 cs o = cs[o]?:=by kernel_rfl
def dfsP (b:Book):Nat→Nat→Scene→List Line→List Scene→List (List Line × List Scene)
 | 0,k,s,ls,ss=>if b.counts.all (countOne s.money k) = true then [(ls,ss)] else []
 | d + 1,k,s,ls,ss=>if b.counts.all (countOne s.money k) = true then (match b.lines[k]? with
  | some l=>(readingsP b.chairs l).flatMap fun x=>if (nextB b.coin s k x).2 = true then dfsP b d (k + 1) (nextB b.coin s k x).1 (ls ++ [x]) (ss ++ [(nextB b.coin s k x).1]) else []
  | none=>[]) else []
def truthsP (b:Book):List (List Line × List Scene):=dfsP b b.lines.length 0 (beginB b) [] [beginB b]
structure Pre (b:Book) (k:Nat) (ls:List Line) (ss:List Scene):Prop where
 ll:ls.length = k
 sl:ss.length = k + 1
 met:∀ j (h:j < ss.length),Met b j ss[j]∧ss[j].bd j
 rd:∀ j (h:j < ls.length) (h2:j < b.lines.length),ls[j] ∈ readingsP b.chairs b.lines[j]
theorem pre_begin {b:Book} (h:Fair b):Pre b 0 [] [beginB b] where
 ll:=rfl
 sl:=rfl
 met:=by
  intro j hj
  have:j = 0:=by simpa using hj
  subst this
  exact ⟨met_begin b,begin_bd h⟩
 rd:=by intro j h; simp at h
theorem pre_next {b:Book} {k:Nat} {ls:List Line} {ss:List Scene} (hb:Fair b) (h:Pre b k ls ss) {x:Line} (hk:k < b.lines.length) (hx:x ∈ readingsP b.chairs b.lines[k]) (hs:k < ss.length) (h2:(nextB b.coin ss[k] k x).2 = true) :
  Pre b (k + 1) (ls ++ [x]) (ss ++ [(nextB b.coin ss[k] k x).1]) where
 ll:=by simp [h.ll]
 sl:=by simp [h.sl]
 met:=by
  intro j hj
  rw [List.getElem_append]
  have hl:=h.sl
  split
  ·rename_i h1; exact h.met j h1
  ·rename_i h1
   have:j = k + 1:=by simp at hj; omega
   subst this
   obtain ⟨⟨r1,r2⟩,_⟩:=rd_ok hb _ (List.getElem_mem hk) x hx
   simp only [hl,Nat.sub_self,List.getElem_cons_zero]
   exact ⟨met_next (h.met k hs).1 r1 r2 h2,next_bd (h.met k hs).2 hb.co1 hb.co2⟩
 rd:=by
  intro j hj hj2
  rw [List.getElem_append]
  have hl:=h.ll
  split
  ·rename_i h1; exact h.rd j h1 hj2
  ·rename_i h1
   have:j = k:=by simp at hj; omega
   subst this
   simpa using hx
structure Lt (b:Book) (γ0 g2 g3 g4 g5 g9 g14:Nat) (ls:List Line) (ss:List Scene) (L:Level):Prop where
 p2:L.get 2 = some (g2,.box [.yld 0 rkey γ0])
 p3:L.get 3 = some (g3,.box [.vec 1 9 g9 b.lines.length])
 p4:L.get 4 = some (g4,.box [.vec 1 14 g14 (b.lines.length + 1)])
 p5:L.get 5 = some (g5,.box [.fn 103 [] [.ref (cellsT b),.ptr 1 4 g4 0,.ptr 1 3 g3 0,.ptr 1 2 g2 0,.ptr 1 5 g5 0]])
 p9:L.get 9 = some (g9,.vec 96 (ls.map encL))
 p14:L.get 14 = some (g14,.vec 113 (ss.map cellsS))
 st:∀ t:St,2≤t.up.length→shutLv t L = L
 b9:g9 < γ0 + 7
 b14:g14 < γ0 + 7
 ok:∀ x ∈ ss,x.ok
theorem stays_more {rs:List Level} {loc:Level} (h:Stays rs) (hl:∀ t:St,rs.length + 1≤t.up.length→shutLv t loc = loc):Stays (rs ++ [loc]):=by
 intro t ht
 have ht':rs.length + 1 + 1≤t.up.length:=by simpa using ht
 simp only [List.map_append,List.map_cons,List.map_nil]
 rw [h t (by omega),hl t (by omega)]
def StepOK {α:Type} (b:Book) (Lv:α→Level→Prop) (step:α→List Line→List Scene→α) (γ0 N0:Nat):Prop :=
 ∀ (a:α) (L L1:Level) (rest:List Level) (loc:Level) (c:Nat) (fr:Fr) (ls:List Line) (ss:List Scene) (g9 g14:Nat),Lv a L→γ0 + 1 < c→Pre b b.lines.length ls ss→L1.get 9 = some (g9,.vec 96 (ls.map encL))→L1.get 14 = some (g14,.vec 113 (ss.map cellsS))→Stays (L1 :: (rest ++ [loc])) →
  ∃ L' c',Lv (step a ls ss) L'∧c≤c'∧∀ n,yldX (execA Try.prog ann kn (n + N0)) 0 rkey γ0 [.vec 1 9 g9 b.lines.length,.vec 1 14 g14 (b.lines.length + 1)] ⟨c,fr,⟨L :: L1 :: rest,loc⟩⟩ = some (.bool true,⟨c',fr,⟨L' :: L1 :: rest,loc⟩⟩)
section
variable {α:Type} {b:Book} {Lv:α→Level→Prop} {step:α→List Line→List Scene→α} {γ0 N0:Nat}
def runT (step:α→List Line→List Scene→α) (a:α) (l:List (List Line × List Scene)):α:=l.foldl (fun a t=>step a t.1 t.2) a
def RecT (b:Book) (Lv:α→Level→Prop) (step:α→List Line→List Scene→α) (γ0 g2 g3 g4 g5 g9 g14 M d k:Nat):Prop :=
 ∀ (pls:List Line) (pss:List Scene) (s:Scene),Pre b k pls pss→pss[k]? = some s→∀ (a:α) (L L1:Level) (rs:List Level) (c dd:Nat) (fr:Fr) (ls:List Line) (ss:List Scene),Lv a L→Lt b γ0 g2 g3 g4 g5 g9 g14 ls ss L1→Stays (L1 :: rs)→γ0 + 7 < c→ls.length = b.lines.length→ss.length = b.lines.length + 1→ls.take k = pls→ss.take (k + 1) = pss →
  ∃ L' L1' c' ls' ss',Lv (runT step a (dfsP b d k s pls pss)) L'∧Lt b γ0 g2 g3 g4 g5 g9 g14 ls' ss' L1'∧c≤c'∧ls'.length = b.lines.length∧ss'.length = b.lines.length + 1∧ls'.take k = pls∧ss'.take (k + 1) = pss ∧
   ∀ n,finS Try.prog (some dd) fr Try.f103.results.toList (execA Try.prog ann kn (n + M) 68 c103 ⟨c,argFr 0 [i k,.ref (cellsT b),.ptr 1 4 g4 0,.ptr 1 3 g3 0,.ptr 1 2 g2 0,.ptr 1 5 g5 0],⟨L :: L1 :: rs,[]⟩⟩) = finU (some dd) fr c' (.bool true) (unsnoc (L' :: L1' :: rs))
theorem encL_set (ls:List Line) (k:Nat) (x:Line):(ls.set k x).map encL = (ls.map encL).set k (encL x):=List.map_set
theorem cellsS_set (ss:List Scene) (k:Nat) (x:Scene):(ss.set k x).map cellsS = (ss.map cellsS).set k (cellsS x):=List.map_set
theorem shut_vec {t:St} {T:TypeId} {es:List (List V)} (h:∀ e ∈ es,∀ v ∈ e,closeOX t v = some v):shutRes t (.vec T es) = .vec T es:=by
 have:closeResX t (.vec T es) = some (.vec T es):=by
  unfold closeResX
  simp only
  rw [mapOO_same fun e he=>mapOO_same fun v hv=>h e he v hv]
 unfold shutRes
 rw [this]
theorem shut_vecL (t:St) (T:TypeId) (ls:List Line):shutRes t (.vec T (ls.map encL)) = .vec T (ls.map encL):=by
 refine shut_vec fun e he v hv=>?_
 obtain ⟨x,_,rfl⟩:=List.mem_map.1 he
 simp only [encL,List.mem_cons,List.not_mem_nil,or_false] at hv
 rcases hv with rfl | rfl | rfl <;> rfl
theorem shut_vecS (t:St) (T:TypeId) (ss:List Scene):shutRes t (.vec T (ss.map cellsS)) = .vec T (ss.map cellsS):=by
 refine shut_vec fun e he v hv=>?_
 obtain ⟨x,_,rfl⟩:=List.mem_map.1 he
 simp only [cellsS,List.mem_append,List.mem_map,List.mem_cons,List.not_mem_nil,or_false] at hv
 rcases hv with ⟨y,_,rfl⟩ | ⟨y,_,rfl⟩ | rfl | rfl <;> rfl
theorem take_set {β:Type} {l p:List β} {n:Nat} {x:β} (h:l.take n = p) (hl:n < l.length):(l.set n x).take (n + 1) = p ++ [x]:=by
 rw [List.take_succ_eq_append_getElem (by simpa using hl),List.take_set_of_le (Nat.le_refl _),h]
 simp
theorem take_less {β:Type} {l p:List β} {n:Nat} {x:β} (h:l.take (n + 1) = p ++ [x]) (hp:p.length = n):l.take n = p:=by
 have:l.take n = (l.take (n + 1)).take n:=by rw [List.take_take]; congr 1; omega
 rw [this,h,← hp]
 simp
theorem stays_set {L1 L2:Level} {rs:List Level} (h:Stays (L1 :: rs)) (h2:∀ t:St,2≤t.up.length→shutLv t L2 = L2):Stays (L2 :: rs):=by
 intro t ht
 have:=h t ht
 simp only [List.map_cons,List.cons.injEq] at this ⊢
 exact ⟨h2 t (by simp at ht; omega),this.2⟩
theorem Lt.set {g2 g3 g4 g5 g9 g14:Nat} {ls:List Line} {ss:List Scene} {L:Level} (h:Lt b γ0 g2 g3 g4 g5 g9 g14 ls ss L) {k:Nat} (x:Line) (s:Scene) (hs:s.ok) :
  Lt b γ0 g2 g3 g4 g5 g9 g14 (ls.set k x) (ss.set (k + 1) s) ((14,g14,.vec 113 ((ss.map cellsS).set (k + 1) (cellsS s))) :: (9,g9,.vec 96 ((ls.map encL).set k (encL x))) :: L) where
 p2:=by simpa using h.p2
 p3:=by simpa using h.p3
 p4:=by simpa using h.p4
 p5:=by simpa using h.p5
 p9:=by simp [List.map_set]
 p14:=by simp [List.map_set]
 st:=by
  intro t ht
  rw [shutLv_cons,shutLv_cons,h.st t ht,← encL_set,← cellsS_set,shut_vecL,shut_vecS]
 b9:=h.b9
 b14:=h.b14
 ok:=by
  intro y hy
  rcases List.mem_or_eq_of_mem_set hy with hy | rfl
  ·exact h.ok y hy
  ·exact hs
theorem l103 (hb:Fair b) (hlv:∀ a L,Lv a L→∀ t:St,1≤t.up.length→shutLv t L = L) (g2 g3 g4 g5 g9 g14 W d k:Nat) (hkl:k < b.lines.length) (pls:List Line) (pss:List Scene) (s:Scene) (hp:Pre b k pls pss) (hsk:pss[k]? = some s)
  (hrec:RecT b Lv step γ0 g2 g3 g4 g5 g9 g14 (W + 1000) d (k + 1)) (rs:List Level) (xs:List Line) (hxs:xs = readingsP b.chairs b.lines[k]) :
  ∀ (e j:Nat) (a:α) (L L1:Level) (c:Nat) (ls:List Line) (ss:List Scene),j + e = xs.length→Lv a L→Lt b γ0 g2 g3 g4 g5 g9 g14 ls ss L1→Stays (L1 :: rs)→γ0 + 7 < c→ls.length = b.lines.length→ss.length = b.lines.length + 1→ls.take k = pls→ss.take (k + 1) = pss →
  ∃ L' L1' c' ls' ss',Lv (runT step a ((xs.drop j).flatMap fun x=>if (nextB b.coin s k x).2 = true then dfsP b d (k + 1) (nextB b.coin s k x).1 (pls ++ [x]) (pss ++ [(nextB b.coin s k x).1]) else [])) L'∧Lt b γ0 g2 g3 g4 g5 g9 g14 ls' ss' L1'∧c≤c'∧ls'.length = b.lines.length∧ss'.length = b.lines.length + 1∧ls'.take k = pls∧ss'.take (k + 1) = pss ∧
   ∀ n m,e < m→loopA (execA Try.prog ann kn (n + W + 1053) 68) lb103_6 (some ([0,1,2,3,5,34,35,36],[34])) m ⟨c,[(0,true,i k),(1,true,.ref (cellsT b)),(2,true,.ptr 1 4 g4 0),(3,true,.ptr 1 3 g3 0),(5,true,.ptr 1 5 g5 0),(34,true,sl (xs.map encL)),(35,true,i xs.length),(36,true,i j)],⟨L :: L1 :: rs,[]⟩⟩ =
    some (.exit 0,⟨c',[(37,true,.bool false),(0,true,i k),(1,true,.ref (cellsT b)),(2,true,.ptr 1 4 g4 0),(3,true,.ptr 1 3 g3 0),(5,true,.ptr 1 5 g5 0),(34,true,sl (xs.map encL)),(35,true,i xs.length),(36,true,i xs.length)],⟨L' :: L1' :: rs,[]⟩⟩)
 | 0,j,a,L,L1,c,ls,ss,hd,hL,hL1,hst,hc,hll,hsl,hpl,hps=>by
  have:j = xs.length:=by omega
  subst this
  refine ⟨L,L1,c,ls,ss,by simpa [runT] using hL,hL1,by omega,hll,hsl,hpl,hps,fun n m hm=>?_⟩
  obtain ⟨m,rfl⟩:∃ m',m = m' + 1:=⟨m - 1,by omega⟩
  simp [loopA_succ,cellsT]
 | e + 1,j,a,L,L1,c,ls,ss,hd,hL,hL1,hst,hc,hll,hsl,hpl,hps=>by
  obtain ⟨p2,p3,p4,p5,p9,p14,pst,b9,b14,pok⟩:=hL1
  have hj:j < xs.length:=by omega
  have hm:=(hp.met k (by have:=hp.sl; omega))
  have hsk':pss[k]'(by have:=hp.sl; omega) = s:=by rw [List.getElem?_eq_getElem (by have:=hp.sl; omega)] at hsk; exact Option.some.inj hsk
  rw [hsk'] at hm
  obtain ⟨hm,hbd⟩:=hm
  have hlen:xs.length≤100:=by rw [hxs]; have:=readingsP_len b.chairs b.lines[k] hb.ch4; omega
  have hw:IntKind.i64.wrap ((j:Int) + 1) = (j:Int) + 1:=wrap_i64 (by omega) (by omega)
  have hl8:=hb.ln
  have hwk:IntKind.i64.wrap ((k:Int) + 1) = (k:Int) + 1:=wrap_i64 (by omega) (by omega)
  have hxm:xs[j] ∈ readingsP b.chairs b.lines[k]:=by rw [← hxs]; exact List.getElem_mem hj
  obtain ⟨⟨x1,x2⟩,x3,x4⟩:=rd_ok hb _ (List.getElem_mem hkl) _ hxm
  obtain ⟨m0,m1,y0,y1⟩:=hbd
  have q104:=fun n=>k104 n b s k xs[j] hm.ok x1 x2 x3 x4 (by omega) (by omega) (by omega) (by omega) (by omega) (by omega) (by have:=hb.co1; omega) (by have:=hb.co2; omega)
  obtain ⟨a0,a1,a2,a3,b0,b1,b2,b3,hcs⟩:=cells_form hm.ok
  obtain ⟨A0,A1,A2,A3,B0,B1,B2,B3,hcn⟩:=cells_form (next_ok b.coin s k xs[j] hm.ok)
  have hg:(List.map cellsS ss)[k]? = some (cellsS s):=by
   have:ss[k]? = some s:=by rw [← hsk,← hps,List.getElem?_take_of_lt (by omega)]
   simp [this]
  simp only [cellsT,encL,hcs,hcn] at q104 hg
  have hki:(k:Int) < (b.lines.length:Int) + 1:=by omega
  have hrs:∀ t:St,rs.length + 2≤t.up.length→rs.map (shutLv t) = rs:=fun t h=>by
   have:=hst t (by simpa using h)
   simp only [List.map_cons,List.cons.injEq] at this
   exact this.2
  cases hn:(nextB b.coin s k xs[j]).2 with
  | false =>
   obtain ⟨L',L1',c',ls',ss',i1,i2,i3,i4,i5,i6,i7,ih⟩:=l103 hb hlv g2 g3 g4 g5 g9 g14 W d k hkl pls pss s hp hsk hrec rs xs hxs e (j + 1) a L L1 (c + 2) ls ss (by omega) hL ⟨p2,p3,p4,p5,p9,p14,pst,b9,b14,pok⟩ hst (by omega) hll hsl hpl hps
   refine ⟨L',L1',c',ls',ss',?_,i2,by omega,i4,i5,i6,i7,fun n m hm=>?_⟩
   ·rw [List.drop_eq_getElem_cons hj,List.flatMap_cons]
    simpa [hn] using i1
   obtain ⟨m,rfl⟩:∃ m',m = m' + 1:=⟨m - 1,by omega⟩
   have ih:=ih n m (by omega)
   rw [loopA_succ]
   simp only [hn] at q104
   simp only [cellsT] at ih ⊢
   simp at ih
   simp [hj,hw,hwk,encL,encC,q104,p2,p3,p4,p9,p14,hg,hki,hsl,ih]
   done
  | true =>
   simp only [hn] at q104
   have hg9:∀ x,g9 < c + 1 + 1 + x:=fun x=>by omega
   have hg14:∀ x,g14 < c + 1 + 1 + x:=fun x=>by omega
   have hg9':=hg9 0
   have hg14':=hg14 0
   obtain ⟨C0,C1,C2,C3,D0,D1,D2,D3,hck⟩:=cells_form (pok ss[k + 1] (List.getElem_mem (by omega)))
   have hgk:(List.map cellsS ss)[k + 1]? = some (cellsS ss[k + 1]):=by simp [show k + 1 < ss.length by omega]
   rw [hck] at hgk
   have hki1:(k:Int) + 1 < (b.lines.length:Int) + 1:=by omega
   have hk0:(0:Int)≤(k:Int) + 1:=by omega
   have hlk:(cellsS ss[k + 1]).length = 10:=(ss[k + 1]).len (pok ss[k + 1] (List.getElem_mem (by omega)))
   have hdk:(cellsS ss[k + 1]).drop 10 = []:=(ss[k + 1]).drop (pok ss[k + 1] (List.getElem_mem (by omega)))
   have hpn:=pre_next hb hp hkl hxm (by have:=hp.sl; omega) (by rw [hsk']; exact hn)
   rw [hsk'] at hpn
   have hps1:(pss ++ [(nextB b.coin s k xs[j]).1])[k + 1]? = some (nextB b.coin s k xs[j]).1:=by
    rw [List.getElem?_append_right (by have:=hp.sl; omega)]
    simp [hp.sl]
   have hL1':=Lt.set (L:=L1) ⟨p2,p3,p4,p5,p9,p14,pst,b9,b14,pok⟩ (k:=k) xs[j] (nextB b.coin s k xs[j]).1 (next_ok b.coin s k xs[j] hm.ok)
   obtain ⟨L2,L3,c2,ls2,ss2,r1,r2,r3,r4,r5,r6,r7,r8⟩:=hrec _ _ _ hpn hps1 a L _ (rs ++ [[]]) (c + 1 + 1) 65 [(64,true,.int .i64 ((k:Int) + 1)),(63,true,i k),(62,true,.fn 103 [] [.ref (cellsT b),.ptr 1 4 g4 0,.ptr 1 3 g3 0,.ptr 1 2 g2 0,.ptr 1 5 g5 0]),
    (0,true,i k),(1,true,.ref (cellsT b)),(2,true,.ptr 1 4 g4 0),(3,true,.ptr 1 3 g3 0),(5,true,.ptr 1 5 g5 0),(34,true,sl (xs.map encL)),(35,true,i xs.length),(36,true,i j)] (ls.set k xs[j]) (ss.set (k + 1) (nextB b.coin s k xs[j]).1) hL hL1' (by have:=stays_more (loc:=[]) (stays_set hst hL1'.st) (fun _ _=>rfl); rwa [List.cons_append] at this) (by omega) (by simpa using hll) (by simpa using hsl) (take_set hpl (by omega)) (take_set hps (by omega))
   obtain ⟨L',L1',c',ls',ss',i1,i2,i3,i4,i5,i6,i7,ih⟩:=l103 hb hlv g2 g3 g4 g5 g9 g14 W d k hkl pls pss s hp hsk hrec rs xs hxs e (j + 1) (runT step a (dfsP b d (k + 1) (nextB b.coin s k xs[j]).1 (pls ++ [xs[j]]) (pss ++ [(nextB b.coin s k xs[j]).1]))) L2 L3 c2 ls2 ss2 (by omega) r1 r2 (stays_set hst r2.st) (by omega) r4 r5 (take_less r6 hp.ll) (take_less r7 hp.sl)
   refine ⟨L',L1',c',ls',ss',?_,i2,by omega,i4,i5,i6,i7,fun n m hm=>?_⟩
   ·rw [List.drop_eq_getElem_cons hj,List.flatMap_cons]
    simp only [hn,if_true]
    unfold runT at i1 ⊢
    rw [List.foldl_append]
    exact i1
   obtain ⟨m,rfl⟩:∃ m',m = m' + 1:=⟨m - 1,by omega⟩
   have ih:=ih n m (by omega)
   have hca:=cf_open (A:=ann) (kn:=kn) (n:=n + W + 1043) Try.func103 b103 rfl (args:=[i ((k:Int) + 1),.ref (cellsT b),.ptr 1 4 g4 0,.ptr 1 3 g3 0,.ptr 1 2 g2 0,.ptr 1 5 g5 0]) (by simp) (some 65) (c + 1 + 1) [(64,true,.int .i64 ((k:Int) + 1)),(63,true,i k),(62,true,.fn 103 [] [.ref (cellsT b),.ptr 1 4 g4 0,.ptr 1 3 g3 0,.ptr 1 2 g2 0,.ptr 1 5 g5 0]),
    (0,true,i k),(1,true,.ref (cellsT b)),(2,true,.ptr 1 4 g4 0),(3,true,.ptr 1 3 g3 0),(5,true,.ptr 1 5 g5 0),(34,true,sl (xs.map encL)),(35,true,i xs.length),(36,true,i j)] (L :: ((14,g14,.vec 113 ((ss.map cellsS).set (k + 1) (cellsS (nextB b.coin s k xs[j]).1))) :: (9,g9,.vec 96 ((ls.map encL).set k (encL xs[j]))) :: L1) :: rs) []
   have r8:=r8 (n + 43)
   rw [show n + 43 + (W + 1000) = n + W + 1043 by omega] at r8
   rw [List.cons_append,List.cons_append] at hca
   have hca:=hca.trans (r8.trans (by rw [← List.cons_append,← List.cons_append,unsnoc_snoc]))
   rw [loopA_succ]
   simp only [cellsT,encL,hcn] at hca p5 ih ⊢
   simp at hca ih
   simp [hj,hw,hwk,encL,encC,q104,p2,p3,p4,p5,p9,p14,hg,hki,hsl,hll,hkl,hg9',hg14',Level.put,hgk,hki1,apK,hk0,hlk,hdk,hca,ih]
   done
theorem k103 (hb:Fair b) (hlv:∀ a L,Lv a L→∀ t:St,1≤t.up.length→shutLv t L = L) (hs:StepOK b Lv step γ0 N0) (g2 g3 g4 g5 g9 g14:Nat) :
  ∀ (d k:Nat),k + d = b.lines.length→RecT b Lv step γ0 g2 g3 g4 g5 g9 g14 (N0 + 60 * d + 1000) d k:=by
 intro d
 induction d with
 | zero =>
  intro k hkd pls pss s hp hsk a L L1 rs c dd fr ls ss hL hL1 hst hc hll hsl hpl hps
  obtain ⟨p2,p3,p4,p5,p9,p14,pst,b9,b14,pok⟩:=hL1
  have hk:k < pss.length:=by have:=hp.sl; omega
  have hsk':pss[k] = s:=by rw [List.getElem?_eq_getElem hk] at hsk; exact Option.some.inj hsk
  have hm:=(hp.met k hk).1
  rw [hsk'] at hm
  have he:ss = pss:=by rw [← hps,List.take_of_length_le (by omega)]
  have he2:ls = pls:=by rw [← hpl,List.take_of_length_le (by omega)]
  have q93:=fun n=>k93 n b s k hm.ok (by have:=hb.cn; omega)
  obtain ⟨a0,a1,a2,a3,b0,b1,b2,b3,hcs⟩:=cells_form hm.ok
  have hg:(List.map cellsS ss)[k]? = some (cellsS s):=by simp [he,hsk]
  simp only [cellsT,hcs] at q93 hg
  have hki:(k:Int) < (b.lines.length:Int) + 1:=by omega
  have hke:decide ((k:Int) = (b.lines.length:Int)) = true:=by simp; omega
  have hrs:∀ t:St,rs.length + 2≤t.up.length→rs.map (shutLv t) = rs:=fun t h=>by
   have:=hst t (by simpa using h)
   simp only [List.map_cons,List.cons.injEq] at this
   exact this.2
  simp only [dfsP,show Try.f103.ntmps = 68 from rfl]
  generalize hcc:b.counts.all (countOne s.money k) = cc at q93 ⊢
  cases cc
  ·refine ⟨L,L1,c,ls,ss,by simpa [runT] using hL,⟨p2,p3,p4,p5,p9,p14,pst,b9,b14,pok⟩,by omega,hll,hsl,hpl,hps,fun n=>?_⟩
   simp [c103,argFr,cellsT,encL,encC,p2,p3,p4,p9,p14,hg,q93,hki,hsl,hlv a L hL,pst,hrs,← Nat.add_assoc]
  ·obtain ⟨L',c',s1,s2,s3⟩:=hs a L L1 rs [] c [(26,true,V.vec 1 14 g14 (b.lines.length + 1)),(25,true,V.vec 1 9 g9 b.lines.length),(24,true,V.yld 0 rkey γ0),(2,true,V.ptr 1 4 g4 0),(3,true,V.ptr 1 3 g3 0),(4,true,V.ptr 1 2 g2 0)] ls ss g9 g14 hL (by omega) (by rw [he,he2,← show k = b.lines.length by omega]; exact hp) p9 p14 (stays_more hst (fun _ _=>rfl))
   refine ⟨L',L1,c',ls,ss,by simpa [runT,← he,← he2] using s1,⟨p2,p3,p4,p5,p9,p14,pst,b9,b14,pok⟩,by omega,hll,hsl,hpl,hps,fun n=>?_⟩
   have s4:=fun n=>s3 (n + 993)
   have hl2:=hlv _ _ s1
   simp only [Nat.add_right_comm _ 993 N0] at s4
   simp [c103,argFr,cellsT,encL,encC,p2,p3,p4,p9,p14,hg,q93,hki,hsl,hl2,pst,hrs,hke,Nat.mul_zero,← Nat.add_assoc,s4]
   done
 | succ d ih =>
  intro k hkd pls pss s hp hsk a L L1 rs c dd fr ls ss hL hL1 hst hc hll hsl hpl hps
  have hL1':=hL1
  obtain ⟨p2,p3,p4,p5,p9,p14,pst,b9,b14,pok⟩:=hL1
  have hkl:k < b.lines.length:=by omega
  have hk:k < pss.length:=by have:=hp.sl; omega
  have hsk':pss[k] = s:=by rw [List.getElem?_eq_getElem hk] at hsk; exact Option.some.inj hsk
  have hm:=(hp.met k hk).1
  rw [hsk'] at hm
  have q93:=fun n=>k93 n b s k hm.ok (by have:=hb.cn; omega)
  have q81:=fun n=>k81 n b b.lines[k] hb.ch1 hb.ch4
  obtain ⟨a0,a1,a2,a3,b0,b1,b2,b3,hcs⟩:=cells_form hm.ok
  have hg:(List.map cellsS ss)[k]? = some (cellsS s):=by
   have:ss[k]? = some s:=by rw [← hsk,← hps,List.getElem?_take_of_lt (by omega)]
   simp [this]
  simp only [cellsT,hcs,encL] at q93 hg q81
  have hki:(k:Int) < (b.lines.length:Int) + 1:=by omega
  have hke:decide ((k:Int) = (b.lines.length:Int)) = false:=by simp; omega
  have hrs:∀ t:St,rs.length + 2≤t.up.length→rs.map (shutLv t) = rs:=fun t h=>by
   have:=hst t (by simpa using h)
   simp only [List.map_cons,List.cons.injEq] at this
   exact this.2
  simp only [dfsP,List.getElem?_eq_getElem hkl,show Try.f103.ntmps = 68 from rfl]
  generalize hcc:b.counts.all (countOne s.money k) = cc at q93 ⊢
  cases cc
  ·refine ⟨L,L1,c,ls,ss,by simpa [runT] using hL,hL1',by omega,hll,hsl,hpl,hps,fun n=>?_⟩
   simp [c103,argFr,cellsT,encL,encC,p2,p3,p4,p9,p14,hg,q93,hki,hsl,hlv a L hL,pst,hrs,← Nat.add_assoc]
  ·obtain ⟨L',L1',c',ls',ss',i1,i2,i3,i4,i5,i6,i7,i8⟩:=l103 hb hlv g2 g3 g4 g5 g9 g14 (N0 + 60 * d) d k hkl pls pss s hp hsk (ih (k + 1) (by omega)) rs _ rfl (readingsP b.chairs b.lines[k]).length 0 a L L1 c ls ss (by omega) hL hL1' hst (by omega) hll hsl hpl hps
   refine ⟨L',L1',c',ls',ss',by simpa using i1,i2,by omega,i4,i5,i6,i7,fun n=>?_⟩
   have i8:=i8 n (n + (N0 + 60 * d) + 1053) (by have:=readingsP_len b.chairs b.lines[k] hb.ch4; omega)
   have hl2:=hlv _ _ i1
   have pst2:=i2.st
   rw [show n + (N0 + 60 * (d + 1) + 1000) = n + (N0 + 60 * d) + 1060 by omega]
   generalize n + (N0 + 60 * d) = n2 at i8 ⊢
   simp only [cellsT] at i8 ⊢
   simp at i8
   simp [c103,argFr,cellsT,encL,encC,p2,p3,p4,p9,p14,hg,q93,hki,hsl,hke,pst2,hl2,hrs,q81,hkl,i8]
   done
end
end Go.Proofs.Try.Op
/- The loop over the truths. No condition. -/
open Go Go.Pg Go.Proofs
namespace Go.Pg
variable {fr:Fr} {s:St}
@[simp] theorem closeOX_yld (l k g:Nat):closeOX s (.yld l k g) = some (.yld l k g):=rfl
@[simp] theorem closeX_ref' (f:Nat) (cs:List V):closeX s (f + 1) (.ref cs) = some (.ref cs):=rfl
@[simp] theorem resV_nil {P:Program}:resV P [] fr s = some (.tup []):=rfl
@[simp] theorem closeX_tup0 (f:Nat):closeX s (f + 1) (.tup []) = some (.tup []):=rfl
@[simp] theorem constV_nilFunc:constV .nilFunc = some (.raw .nilFunc):=rfl
@[simp] theorem closed_yld (f l k g:Nat):closedV (f + 1) (.yld l k g) = false:=rfl
@[simp] theorem weak_yld (l k g:Nat):weakV (.yld l k g) = .yld l k g:=rfl
@[simp] theorem bx1_yld (d c l k g:Nat):bx1 d c fr s (some (.yld l k g)) = some ⟨c + 1,(d,true,.ptr s.up.length d c 0) :: fr,s.put s.up.length d c (.box [.yld l k g])⟩:=rfl
@[simp] theorem cp1_box (F:List V→Option (List V)) (g off:Nat) (g':Nat) (cs:List V):cp1 F g off (some (g',.box cs)) = if g' = g then (F cs).map (fun ds=>V.ref (ds.drop off)) else none:=rfl
noncomputable def mk4 (P:Program) (d c:Nat) (fr:Fr) (s:St) (e:TypeId) (n m:Int):Option (List V)→Option XS
 | some z=>if 0≤n∧m = n∧z.length = P.cellsOf e∧n.toNat * P.bytesOf e≤140737488355328∧n.toNat≤maxLen then some ⟨c + 1,(d,true,.vec s.up.length d c n.toNat) :: fr,s.put s.up.length d c (.vec e (List.replicate n.toNat z))⟩ else none
 | none=>none
@[simp] theorem mk4_some {P:Program} (d c:Nat) (e:TypeId) (n m:Int) (z:List V):mk4 P d c fr s e n m (some z) = if 0≤n∧m = n∧z.length = P.cellsOf e∧n.toNat * P.bytesOf e≤140737488355328∧n.toNat≤maxLen then some ⟨c + 1,(d,true,.vec s.up.length d c n.toNat) :: fr,s.put s.up.length d c (.vec e (List.replicate n.toNat z))⟩ else none:=rfl
noncomputable def mk3 (P:Program) (d c:Nat) (fr:Fr) (s:St):Option (Option Nat × TypeId)→Option V→Option V→Option XS
 | some (none,e),some (.int _ n),some (.int _ m)=>mk4 P d c fr s e n m (zeroC P e)
 | _,_,_=>none
@[simp] theorem mk3_some {P:Program} (d c:Nat) (e:TypeId) (k1 k2:IntKind) (n m:Int):mk3 P d c fr s (some (none,e)) (some (.int k1 n)) (some (.int k2 m)) = mk4 P d c fr s e n m (zeroC P e):=rfl
@[simp] theorem stepK_mkS {P:Program} {E:XE} (T:TypeId) (d c:Nat) (x y:Operand):stepK P E (some d) (.mkS T x y) ⟨c,fr,s⟩ = mk3 P d c fr s (elemT P T) (rdX fr x) (rdX fr y):=by
 show xMake P (some d) T x y ⟨c,fr,s⟩ = _
 unfold xMake
 simp only
 cases elemT P T with
 | none=>cases rdX fr x <;> cases rdX fr y <;> rfl
 | some p =>
  obtain ⟨k,e⟩:=p
  cases k with
  | some k=>cases rdX fr x <;> cases rdX fr y <;> rfl
  | none =>
   cases rdX fr x with
   | none=>rfl
   | some a =>
    cases rdX fr y with
    | none=>cases a <;> rfl
    | some z =>
     cases a with
     | int k1 n =>
      cases z with
      | int k2 m=>simp only [mk3_some]; cases zeroC P e <;> rfl
      | _=>rfl
     | _=>rfl
theorem own_call0 {P:Program} {A:Ann} {kn:CF0} {n:Nat} {f:FuncId} {d c:Nat} {x:Operand} {args:List Operand} {first cap vs:List V} {r:V} (hf:rdX fr x = some (.fn f first cap)) (hv:mapO (rdX fr) args = some vs) (hS:sliceR P f = false) (hr:closedV 9 r = true) (h:callW P kn (execA P A kn n) f ((first ++ vs ++ cap).map weakV) = some r) :
  stepK0 P (envA P A kn n) (some d) (.call true none x args) ⟨c,fr,s⟩ = nw (ow3 d c fr s (some r)):=by
 show noW (xCallO (envA P A kn n).co (some d) x args ⟨c,fr,s⟩) = _
 unfold xCallO
 simp only [hf,hv]
 have:(envA P A kn n).co f ((first ++ vs ++ cap).map weakV) d = some ⟨.dead,some r⟩:=by
  show callO P kn (fun _ _ _=>none) (execA P A kn n) f _ d = _
  unfold callO
  simp only [hS,h]
 rw [this]
 simp only [Mk.val,closed_ren 9 r hr,ow3_some,noW_nw]
@[simp] theorem rds_mkS (T:TypeId) (x y:Operand) (r:Operand→Option V):rdsK (.mkS T x y) r = []:=rfl
noncomputable def rE (fr:Fr) (n γ:Nat) (r:Option XS):Option (Exit × XS):=match r with
 | some st=>match st.s.get n rkey with
  | some (γ',.loop _ _ _ _ _ ls)=>Bool.rec none (match ls with
   | .ready=>some (.normal,⟨st.c,fr,st.s.put n rkey γ .dead⟩)
   | .left .ret=>some (.ret,⟨st.c,fr,st.s.put n rkey γ .dead⟩)
   | .left (.exit id)=>some (.exit id,⟨st.c,fr,st.s.put n rkey γ .dead⟩)
   | _=>none) (Nat.beq γ' γ && Nat.blt γ st.c)
  | _=>none
 | none=>none
theorem xRange_eq {P:Program} {A:Ann} {kn:CF0} {n N:Nat} {g:Operand} {ps:List Tmp} {asg body:Code} {c:Nat} {up:List Level} {loc:Level} {f:FuncId} {first cap:List V} (h:rdX fr g = some (.fn f first cap)) :
  xRange (envA P A kn n).cf N g ps asg body ⟨c,fr,⟨up,loc⟩⟩ = rE fr up.length c (ca2 (envA P A kn n) none ⟨c + 1,fr,⟨up,(rkey,c,.loop fr ps asg body N .ready) :: loc⟩⟩ f ((first ++ [V.yld up.length rkey c] ++ cap).map weakV)):=by
 unfold xRange
 simp only [h]
 unfold ca2 xRangeE rE
 simp only [St.put,if_true,Level.put]
 cases (envA P A kn n).cf f ((first ++ [V.yld up.length rkey c] ++ cap).map weakV) ⟨c + 1,fr,⟨up,(rkey,c,.loop fr ps asg body N .ready) :: loc⟩⟩ with
 | none=>rfl
 | some r=>rfl
theorem rE_ready {n γ c:Nat} {fr' fr0:Fr} {s:St} {ps:List Tmp} {asg body:Code} {N:Nat} (h:s.get n rkey = some (γ,.loop fr0 ps asg body N .ready)) (hc:γ < c):rE fr n γ (some ⟨c,fr',s⟩) = some (.normal,⟨c,fr,s.put n rkey γ .dead⟩):=by
 unfold rE
 simp only [h]
 have:(Nat.beq γ γ && Nat.blt γ c) = true:=by simpa using hc
 rw [this]
@[simp] theorem shut_loop (t:St) (fr0:Fr) (ps:List Tmp) (asg body:Code) (N:Nat) (l:LS):shutRes t (.loop fr0 ps asg body N l) = .loop fr0 ps asg body N l:=rfl
theorem yld_run {rec:RecN} {l q γ c N:Nat} {fr0:Fr} {ps:List Tmp} {asg body:Code} {vs:List V} (h:s.get l q = some (γ,.loop fr0 ps asg body N .ready)) (hv:vs.length = ps.length) (hc:γ < c) :
  yldX rec l q γ vs ⟨c,fr,s⟩ = roundE fr l q γ (roundB (rec N) l q γ body (rec N asg ⟨c,putPs fr0 ps vs,⟨s.up ++ [s.loc],[]⟩⟩)):=by
 unfold yldX
 simp only [h]
 have:(Nat.beq γ γ && Nat.beq vs.length ps.length && Nat.blt γ c) = true:=by simp [hv,hc]
 rw [this]
theorem roundB_normal {rec:Rec} {l q γ c N:Nat} {fr0:Fr} {ps:List Tmp} {asg body body':Code} (h:s.get l q = some (γ,.loop fr0 ps asg body' N .ready)) (hc:γ < c) :
  roundB rec l q γ body (some (.normal,⟨c,fr,s⟩)) = rec body ⟨c,fr,s.put l q γ (.loop fr0 ps asg body' N .busy)⟩:=by
 unfold roundB
 simp only [h]
 have:(Nat.beq γ γ && Nat.blt γ c) = true:=by simp [hc]
 rw [this]
theorem roundE_normal {fr':Fr} {l q γ c N:Nat} {fr0:Fr} {ps:List Tmp} {asg body:Code} {up u:List Level} {loc lc:Level} (h:St.get ⟨up,loc⟩ l q = some (γ,.loop fr0 ps asg body N .busy)) (hu:unsnoc up = some (u,lc)) (hl:l < up.length) (hc:γ < c) :
  roundE fr l q γ (some (.normal,⟨c,fr',⟨up,loc⟩⟩)) = some (.bool true,⟨c,fr,St.put ⟨u.map (shutLv ⟨up,loc⟩),shutLv ⟨up,loc⟩ lc⟩ l q γ (.loop fr0 ps asg body N .ready)⟩):=by
 unfold roundE
 simp only [h,hu]
 have:(Nat.beq γ γ && Nat.blt l up.length && Nat.blt γ c) = true:=by simp [hc,hl]
 rw [this]
 rfl
end Go.Pg
namespace Go.Proofs.Try.Op
set_option maxRecDepth 100000
set_option linter.unusedSimpArgs false
theorem k79 (n:Nat) (b:Book):callK Try.prog kn (execA Try.prog ann kn (n+100)) 79 [.agg (cellsT b)] = some (.fn 102 [] [.ref (cellsT b)]):=by
 rw [callK_of rfl,call0_eq Try.func79 b79 rfl (by simp [cellsT,encL,encC])]
 simp [c79,argFr,cellsT,encL,encC]
 done
section
variable {α:Type} {b:Book} {Lv:α→Level→Prop} {step:α→List Line→List Scene→α} {γ0 N0:Nat}
def scene0:Scene:=⟨[0,0,0,0],[0,0,0,0],0,0⟩
theorem k102 (hb:Fair b) (hlv:∀ a L,Lv a L→∀ t:St,1≤t.up.length→shutLv t L = L) (hs:StepOK b Lv step γ0 N0) (a:α) (L:Level) (hL:Lv a L) (fr:Fr) :
  ∃ L' c',Lv (runT step a (truthsP b)) L'∧γ0 + 1≤c'∧∀ n,ca2 (envA Try.prog ann kn (n + N0 + 1600)) none ⟨γ0 + 1,fr,⟨[],L⟩⟩ 102 [.yld 0 rkey γ0,.ref (cellsT b)] = some ⟨c',fr,⟨[],L'⟩⟩:=by
 obtain ⟨a0,a1,a2,a3,b0,b1,b2,b3,hcs⟩:=cells_form (begin_ok b)
 have hl8:=hb.ln
 let L1:Level:=[(2,γ0 + 1,.box [.yld 0 rkey γ0]),(3,γ0 + 4,.box [.vec 1 9 (γ0 + 2) b.lines.length]),(4,γ0 + 5,.box [.vec 1 14 (γ0 + 3) (b.lines.length + 1)]),
  (5,γ0 + 6,.box [.fn 103 [] [.ref (cellsT b),.ptr 1 4 (γ0 + 5) 0,.ptr 1 3 (γ0 + 4) 0,.ptr 1 2 (γ0 + 1) 0,.ptr 1 5 (γ0 + 6) 0]]),
  (9,γ0 + 2,.vec 96 ((List.replicate b.lines.length (⟨0,0,0⟩:Line)).map encL)),(14,γ0 + 3,.vec 113 (((List.replicate (b.lines.length + 1) scene0).set 0 (beginB b)).map cellsS))]
 have hL1:Lt b γ0 (γ0 + 1) (γ0 + 4) (γ0 + 5) (γ0 + 6) (γ0 + 2) (γ0 + 3) (List.replicate b.lines.length ⟨0,0,0⟩) ((List.replicate (b.lines.length + 1) scene0).set 0 (beginB b)) L1:=by
  refine ⟨rfl,rfl,rfl,rfl,rfl,rfl,fun t ht=>?_,by omega,by omega,?_⟩
  ·have e0:¬ 0 = t.up.length:=by omega
   have e1:¬ 1 = t.up.length:=by omega
   obtain ⟨up,loc⟩:=t
   simp only at e0 e1
   simp only [L1,shutLv_cons,shutLv_nil,shut_vecL,shut_vecS]
   simp [e0,e1,cellsT]
   done
  ·intro x hx
   rcases List.mem_or_eq_of_mem_set hx with hx | rfl
   ·rw [(List.mem_replicate.1 hx).2]; exact ⟨rfl,rfl⟩
   ·exact begin_ok b
 obtain ⟨L',L1',c',ls',ss',r1,r2,r3,r4,r5,r6,r7,r8⟩:=k103 hb hlv hs (γ0 + 1) (γ0 + 4) (γ0 + 5) (γ0 + 6) (γ0 + 2) (γ0 + 3) b.lines.length 0 (by omega) [] [beginB b] (beginB b) (pre_begin hb) rfl a L L1 [] (γ0 + 8) 21 [(20,true,.fn 103 [] [.ref (cellsT b),.ptr 1 4 (γ0 + 5) 0,.ptr 1 3 (γ0 + 4) 0,.ptr 1 2 (γ0 + 1) 0,.ptr 1 5 (γ0 + 6) 0]),(5,true,.ptr 1 5 (γ0 + 6) 0)]
  (List.replicate b.lines.length ⟨0,0,0⟩) ((List.replicate (b.lines.length + 1) scene0).set 0 (beginB b)) hL hL1 (by intro t ht; simp only [List.map_cons,List.map_nil,hL1.st t (by simpa using ht)]) (by omega) (by simp) (by simp) (by simp) (by simp [List.replicate_succ])
 refine ⟨L',c',r1,by omega,fun n=>?_⟩
 have q105:=fun n=>k105 n b
 have hl2:=hlv _ _ r1
 rw [cf_open Try.func102 b102 rfl (by simp)]
 have hw:IntKind.i64.wrap ((b.lines.length:Int) + 1) = (b.lines.length:Int) + 1:=wrap_i64 (by omega) (by have:=hb.ln; omega)
 have hl8:=hb.ln
 have m1:b.lines.length * 24≤140737488355328:=by omega
 have m2:b.lines.length≤maxLen:=by unfold maxLen; omega
 have m3:(b.lines.length + 1) * 80≤140737488355328:=by omega
 have m4:b.lines.length + 1≤maxLen:=by unfold maxLen; omega
 have m5:(0:Int)≤(b.lines.length:Int) + 1:=by omega
 simp only [cellsT,hcs] at q105 ⊢
 have ow:=fun n2 c fr s=>own_call0 (P:=Try.prog) (A:=ann) (kn:=kn) (n:=n2 + 1594) (d:=18) (c:=c) (fr:=(17,true,.agg [i b.chairs,i b.coin,i b.box,V.list false (List.map encL b.lines),V.list false (List.map encC b.counts)]) :: fr) (s:=s) (x:=.func 105) (args:=[.tmp 17]) (f:=105) (first:=[]) (cap:=[]) (vs:=[.agg [i b.chairs,i b.coin,i b.box,V.list false (List.map encL b.lines),V.list false (List.map encC b.counts)]]) (r:=.agg [i a0,i a1,i a2,i a3,i b0,i b1,i b2,i b3,i (beginB b).money,i (beginB b).mixed]) (by simp) (by simp) (by kernel_rfl) (by simp) (by simp [q105])
 have r8:=r8 (n + 594 - 60 * b.lines.length)
 have hca:=cf_open (A:=ann) (kn:=kn) (n:=n + N0 + 1594) Try.func103 b103 rfl (args:=[i 0,.ref (cellsT b),.ptr 1 4 (γ0 + 5) 0,.ptr 1 3 (γ0 + 4) 0,.ptr 1 2 (γ0 + 1) 0,.ptr 1 5 (γ0 + 6) 0]) (by simp) (some 21) (γ0 + 8) [(20,true,.fn 103 [] [.ref (cellsT b),.ptr 1 4 (γ0 + 5) 0,.ptr 1 3 (γ0 + 4) 0,.ptr 1 2 (γ0 + 1) 0,.ptr 1 5 (γ0 + 6) 0]),(5,true,.ptr 1 5 (γ0 + 6) 0)] [L] L1
 rw [show n + 594 - 60 * b.lines.length + (N0 + 60 * b.lines.length + 1000) = n + N0 + 1594 by omega] at r8
 have hca:=hca.trans (r8.trans rfl)
 generalize n + N0 = n2 at hca ow ⊢
 have z1:(List.replicate b.lines.length (⟨0,0,0⟩:Line)).map encL = List.replicate b.lines.length [V.int IntKind.i64 0,V.int IntKind.i64 0,V.int IntKind.i64 0]:=by simp [encL]
 have z2:((List.replicate (b.lines.length + 1) scene0).set 0 (beginB b)).map cellsS = (List.replicate (b.lines.length + 1) [V.int IntKind.i64 0,V.int IntKind.i64 0,V.int IntKind.i64 0,V.int IntKind.i64 0,V.int IntKind.i64 0,V.int IntKind.i64 0,V.int IntKind.i64 0,V.int IntKind.i64 0,V.int IntKind.i64 0,V.int IntKind.i64 0]).set 0 [i a0,i a1,i a2,i a3,i b0,i b1,i b2,i b3,i (beginB b).money,i (beginB b).mixed]:=by
  rw [List.map_set,hcs]; simp [cellsS,scene0]
 simp only [L1,z1,z2,cellsT] at hca
 simp at hca
 simp [c102,argFr,encL,encC,hw,m1,m2,m3,m4,m5,Nat.add_assoc,ow,hca,hl2]
 done
end
theorem k75 (n:Nat) (s:Scene) (h:s.ok):callK Try.prog kn (execA Try.prog ann kn (n+100)) 75 [.agg (cellsS s)] = some (i s.money):=by
 obtain ⟨a0,a1,a2,a3,b0,b1,b2,b3,hcs⟩:=cells_form h
 rw [callK_of rfl,call0_eq Try.func75 b75 rfl (by simp [hcs])]
 simp [c75,argFr,hcs]
theorem k76 (n:Nat) (s:Scene) (h:s.ok):callK Try.prog kn (execA Try.prog ann kn (n+100)) 76 [.agg (cellsS s)] = some (i s.mixed):=by
 obtain ⟨a0,a1,a2,a3,b0,b1,b2,b3,hcs⟩:=cells_form h
 rw [callK_of rfl,call0_eq Try.func76 b76 rfl (by simp [hcs])]
 simp [c76,argFr,hcs]
theorem k101 (n:Nat) (lo hi x:Int):callK Try.prog kn (execA Try.prog ann kn (n+400)) 101 [.agg [i lo,i hi],i x] = some (.agg [i (if x < lo then x else lo),i (if hi < x then x else hi)]):=by
 rw [callK_of rfl,call0_eq Try.func101 b101 rfl (by simp)]
 have q98:=fun n=>k98 n lo x
 simp [c101,argFr,q98]
 done
def minI (a x:Int):Int:=if x < a then x else a
def maxI (a x:Int):Int:=if a < x then x else a
def widen (r:Option (Int × Int)) (x:Int):Option (Int × Int):=match r with
 | none=>some (x,x)
 | some (lo,hi)=>some (minI lo x,maxI hi x)
noncomputable def fr74 (b:Book):Fr:=[(12,true,.fn 102 [] [.ref (cellsT b)]),(11,true,.agg (cellsT b)),(3,true,.ptr 0 3 0 0),(4,true,.ptr 0 4 1 0),(5,true,.ptr 0 5 2 0),(6,true,.ptr 0 6 3 0),(7,true,.ptr 0 7 4 0)]
noncomputable def body74:Code:=.block 1 (r74_4.seq ((r74_5.seq (.cond (.tmp 21) r74_6 .skip)).seq r74_7))
@[simp] theorem u74 (n:Nat) (st:XS):execA Try.prog ann kn n 29 body74 st = execA Try.prog ann kn n 29 (.block 1 (r74_4.seq ((r74_5.seq (.cond (.tmp 21) r74_6 .skip)).seq r74_7))) st:=rfl
structure Lv74 (b:Book) (k:Nat) (f:FuncId) (a:Option (Int × Int)) (L:Level):Prop where
 p3:L.get 3 = some (0,.box (cellsT b))
 p4:L.get 4 = some (1,.box [i k])
 p5:L.get 5 = some (2,.box [.fn f [] []])
 p6:L.get 6 = some (3,.box [i (a.getD (0,0)).1,i (a.getD (0,0)).2])
 p7:L.get 7 = some (4,.box [.bool a.isNone])
 pr:L.get rkey = some (5,.loop (fr74 b) [13,14] r74_3 body74 29 .ready)
 st:∀ t:St,1≤t.up.length→shutLv t L = L
theorem ow101 (n c:Nat) (fr:Fr) (s:St) (lo hi x:Int):stepK Try.prog (envA Try.prog ann kn (n + 400)) (some 27) (.call true none (.func 101) [.tmp 25,.tmp 26]) ⟨c,(26,true,.int .i64 x) :: (25,true,.agg [.int .i64 lo,.int .i64 hi]) :: fr,s⟩ =
  some ⟨c + 1,(27,true,.agg [.int .i64 (minI lo x),.int .i64 (maxI hi x)]) :: (26,true,.int .i64 x) :: (25,true,.agg [.int .i64 lo,.int .i64 hi]) :: fr,s.put s.up.length 27 c .dead⟩:=by
 rw [own_call (f:=101) (first:=[]) (cap:=[]) (vs:=[.agg [.int .i64 lo,.int .i64 hi],.int .i64 x]) (r:=.agg [.int .i64 (minI lo x),.int .i64 (maxI hi x)]) (by simp) (by simp) (by kernel_rfl) (by simp) (by simpa [minI,maxI] using k101 n lo hi x)]
 rfl
theorem step74 {b:Book} (hb:Fair b) {k:Nat} (hk:k≤b.lines.length) {f:FuncId} {φ:Scene→Int} (hφ:∀ n s,s.ok→callK Try.prog kn (execA Try.prog ann kn (n+100)) f [.agg (cellsS s)] = some (i (φ s))) :
  StepOK b (Lv74 b k f) (fun a _ ss=>widen a (φ (ss.getD k scene0))) 5 600:=by
 intro a L L1 rest loc c fr ls ss g9 g14 hL hc hp p9 p14 hst
 obtain ⟨p3,p4,p5,p6,p7,pr,pst⟩:=hL
 have hks:k < ss.length:=by have:=hp.sl; omega
 have hok:=(hp.met k hks).1.ok
 have hgk:(List.map cellsS ss)[k]? = some (cellsS ss[k]):=by simp [hks]
 obtain ⟨a0,a1,a2,a3,b0,b1,b2,b3,hcs⟩:=cells_form hok
 have hq:=fun n=>hφ n ss[k] hok
 rw [hcs] at hgk hq
 have hki:(k:Int) < (b.lines.length:Int) + 1:=by omega
 have hsl:=hp.sl
 have e3:3 < c:=by omega
 have e4:4 < c:=by omega
 have e3':3 < c + 1:=by omega
 have hst':=fun t h=>hst t h
 simp only [List.map_cons,List.map_append,List.map_nil,List.cons.injEq] at hst'
 have hgd:ss.getD k scene0 = ss[k]:=by simp [List.getD_eq_getElem?_getD,hks]
 have hge:ss[k]?.getD scene0 = ss[k]:=by simp [hks]
 have hun:∀ A:Level,unsnoc (A :: L1 :: (rest ++ [loc])) = some (A :: L1 :: rest,loc):=fun A=>by
  rw [← List.cons_append,← List.cons_append,unsnoc_snoc]
 have hsr:∀ t:St,(L1 :: (rest ++ [loc])).length + 1≤t.up.length→(rest.map (shutLv t) = rest∧shutLv t loc = loc):=fun t h=>by
  have:=(hst' t h).2
  exact ⟨List.append_inj_left' this rfl,by simpa using List.append_inj_right' this rfl⟩
 have h1s:∀ t:St,(L1 :: (rest ++ [loc])).length + 1≤t.up.length→shutLv t L1 = L1:=fun t h=>(hst' t h).1
 cases a with
 | none =>
  refine ⟨(rkey,5,.loop (fr74 b) [13,14] r74_3 body74 29 .ready) :: (6,3,.box [i (minI (φ ss[k]) (φ ss[k])),i (maxI (φ ss[k]) (φ ss[k]))]) :: (7,4,.box [.bool false]) :: (6,3,.box [i (φ ss[k]),i (φ ss[k])]) :: (rkey,5,.loop (fr74 b) [13,14] r74_3 body74 29 .busy) :: L,c + 1,?_,by omega,fun n=>?_⟩
  ·have em:minI (φ ss[k]) (φ ss[k]) = φ ss[k]:=by unfold minI; split <;> rfl
   have ex:maxI (φ ss[k]) (φ ss[k]) = φ ss[k]:=by unfold maxI; split <;> rfl
   exact ⟨by simpa [rkey] using p3,by simpa [rkey] using p4,by simpa [rkey] using p5,by simp [rkey,hgd,hge,widen,em,ex],by simp [rkey,hgd,widen],by simp,fun t ht=>by simp [pst t ht]⟩
  ·have ow:=fun c fr s lo hi x=>ow101 (n + 196) c fr s lo hi x
   simp only [Nat.add_assoc,Nat.reduceAdd] at ow
   rw [yld_run (by simpa using pr) rfl (by omega)]
   simp only [putPs,Fr.put,x74_3,fr74]
   simp
   rw [roundB_normal (fr0:=fr74 b) (ps:=[13,14]) (asg:=r74_3) (body':=body74) (N:=29) (by simpa using pr) (by omega)]
   generalize hB:Res.loop (fr74 b) [13,14] r74_3 body74 29 LS.busy = B
   simp [p3,p4,p5,p6,p7,p14,hgk,hq,hki,hsl,Level.put,rkey,e3,e4,e3',ow]
   subst hB
   rw [roundE_normal (fr0:=fr74 b) (ps:=[13,14]) (asg:=r74_3) (body:=body74) (N:=29) (by simp) (hun _) (by simp) (by omega)]
   simp [pst,h1s,hsr,Level.put,fr74]
 | some a =>
  obtain ⟨lo,hi⟩:=a
  simp only [Option.getD_some] at p6
  refine ⟨(rkey,5,.loop (fr74 b) [13,14] r74_3 body74 29 .ready) :: (6,3,.box [i (minI lo (φ ss[k])),i (maxI hi (φ ss[k]))]) :: (rkey,5,.loop (fr74 b) [13,14] r74_3 body74 29 .busy) :: L,c + 1,?_,by omega,fun n=>?_⟩
  ·exact ⟨by simpa [rkey] using p3,by simpa [rkey] using p4,by simpa [rkey] using p5,by simp [rkey,hgd,hge,widen],by simpa [rkey,hgd,widen] using p7,by simp,fun t ht=>by simp [pst t ht]⟩
  ·have ow:=fun c fr s lo hi x=>ow101 (n + 196) c fr s lo hi x
   simp only [Nat.add_assoc,Nat.reduceAdd] at ow
   rw [yld_run (by simpa using pr) rfl (by omega)]
   simp only [putPs,Fr.put,x74_3,fr74]
   simp
   rw [roundB_normal (fr0:=fr74 b) (ps:=[13,14]) (asg:=r74_3) (body':=body74) (N:=29) (by simpa using pr) (by omega)]
   generalize hB:Res.loop (fr74 b) [13,14] r74_3 body74 29 LS.busy = B
   simp [p3,p4,p5,p6,p7,p14,hgk,hq,hki,hsl,Level.put,rkey,e3,e4,e3',ow]
   subst hB
   rw [roundE_normal (fr0:=fr74 b) (ps:=[13,14]) (asg:=r74_3) (body:=body74) (N:=29) (by simp) (hun _) (by simp) (by omega)]
   simp [pst,h1s,hsr,Level.put,fr74]
theorem k74 (n:Nat) (b:Book) (hb:Fair b) (k:Nat) (hk:k≤b.lines.length) (f:FuncId) (φ:Scene→Int) (hφ:∀ n s,s.ok→callK Try.prog kn (execA Try.prog ann kn (n+100)) f [.agg (cellsS s)] = some (i (φ s))) :
  callK Try.prog kn (execA Try.prog ann kn (n+3000)) 74 [.agg (cellsT b),i k,.fn f [] []] = some (.agg [i (((runT (fun a _ ss=>widen a (φ (ss.getD k scene0))) none (truthsP b)).getD (0,0)).1),i (((runT (fun a _ ss=>widen a (φ (ss.getD k scene0))) none (truthsP b)).getD (0,0)).2)]):=by
 rw [callK_of rfl,call0_eq Try.func74 b74 rfl (by simp [cellsT,encL,encC])]
 have q79:=fun n=>k79 n b
 have hL0:Lv74 b k f none [(rkey,5,.loop (fr74 b) [13,14] r74_3 body74 29 .ready),(3,0,.box (cellsT b)),(4,1,.box [i k]),(5,2,.box [.fn f [] []]),(6,3,.box [i 0,i 0]),(7,4,.box [.bool true])] :=
  ⟨by simp [rkey],by simp [rkey],by simp [rkey],by simp [rkey],by simp [rkey],by simp,fun t ht=>by simp [cellsT]⟩
 obtain ⟨L',c',r1,r2,r3⟩:=k102 hb (fun a L h=>h.st) (step74 hb hk hφ) none _ hL0 (fr74 b)
 generalize runT (fun a _ ss=>widen a (φ (ss.getD k scene0))) none (truthsP b) = R at r1 ⊢
 obtain ⟨p3,p4,p5,p6,p7,pr,pst⟩:=r1
 have r3:=r3 (n + 794)
 simp only [cellsT,fr74,Nat.add_assoc,Nat.reduceAdd] at q79 r3
 simp [c74,argFr,cellsT,encL,encC,q79,exec_range]
 rw [xRange_eq rfl]
 simp
 rw [show (Code.block 1 (r74_4.seq ((r74_5.seq (Code.cond (Operand.tmp 21) r74_6 Code.skip)).seq r74_7))) = body74 from rfl]
 simp only [r3]
 rw [rE_ready (fr0:=fr74 b) (ps:=[13,14]) (asg:=r74_3) (body:=body74) (N:=29) (by simpa using pr) (by omega)]
 have e3:3 < c':=by omega
 simp [p6,Level.put,rkey,e3]
 done
 done
@[simp] theorem cells_108:Try.prog.cellsOf 108 = 1:=by kernel_rfl
@[simp] theorem whole_108 (cs:List V):whole Try.prog 108 cs = cs[0]?:=by kernel_rfl
@[simp] theorem part_108 (cs:List V) (o:Nat):partV Try.prog 108 cs o = cs[o]?:=by kernel_rfl
theorem k70 (n:Nat) (s:Scene) (h:s.ok) (j:Nat) (hj:j < 4):callK Try.prog kn (execA Try.prog ann kn (n+100)) 70 [.agg (cellsS s),i j] = some (.bool (!decide (s.ch.getD j 0 = 0))):=by
 obtain ⟨a0,a1,a2,a3,b0,b1,b2,b3,e1,e2,hcs⟩:=cells_parts h
 rw [callK_of rfl,call0_eq Try.func70 b70 rfl (by simp [hcs])]
 have:j = 0∨j = 1∨j = 2∨j = 3:=by omega
 rcases this with rfl | rfl | rfl | rfl <;> simp [c70,argFr,hcs,e1]
theorem k72 (n:Nat) (s:Scene) (h:s.ok) (j:Nat) (hj:j < 4):callK Try.prog kn (execA Try.prog ann kn (n+100)) 72 [.agg (cellsS s),i j] = some (.bool (!decide (s.tk.getD j 0 = 0))):=by
 obtain ⟨a0,a1,a2,a3,b0,b1,b2,b3,e1,e2,hcs⟩:=cells_parts h
 rw [callK_of rfl,call0_eq Try.func72 b72 rfl (by simp [hcs])]
 have:j = 0∨j = 1∨j = 2∨j = 3:=by omega
 rcases this with rfl | rfl | rfl | rfl <;> simp [c72,argFr,hcs,e2]
theorem evEq111 {a0 a1 a2 a3 b0 b1 b2 b3:Int} (h:∀ x ∈ [a0,a1,a2,a3,b0,b1,b2,b3],okI x):evEq Try.prog 111 [i a0,i a1,i a2,i a3] [i b0,i b1,i b2,i b3] = some (decide ([a0,a1,a2,a3] = [b0,b1,b2,b3])):=by
 simp only [List.mem_cons,List.not_mem_nil,or_false,forall_eq_or_imp,forall_eq] at h
 obtain ⟨x0,x1,x2,x3,y0,y1,y2,y3⟩:=h
 have kt:(aggT Try.prog 111 && Program.keyTypeAt Try.prog 16 111 && !(Try.prog.eqGuardType Try.prog.depth 111)) = true:=by kernel_rfl
 unfold evEq
 simp [plainC,kl111 14 (wfI x0) (wfI x1) (wfI x2) (wfI x3),kl111 14 (wfI y0) (wfI y1) (wfI y2) (wfI y3)]
 refine ⟨⟨by simpa using kt,by simp [flatLits]⟩,?_⟩
 simp only [eqLits,Bool.and_true]
 rw [Bool.eq_iff_iff]
 simp
def wrap1 (x:Int):Int:=IntKind.i64.wrap (x + 1)
def incGo (q:Scene→Nat→Bool) (s:Scene):Nat→List Int→List Int
 | _,[]=>[]
 | j,y :: r=>(if q s j = true then wrap1 y else y) :: incGo q s (j + 1) r
structure VA where
 ys:List Int
 many:Int
 last:Scene
def stepV (q:Scene→Nat→Bool) (s:Scene) (a:VA):VA:=if 0 < a.many∧s.ch = a.last.ch∧s.tk = a.last.tk then a else ⟨incGo q s 0 a.ys,wrap1 a.many,s⟩
def fr71 (b:Book):Fr:=[(20,true,.fn 102 [] [.ref (cellsT b)]),(19,true,.agg (cellsT b)),(3,true,.ptr 0 3 0 0),(4,true,.ptr 0 4 1 0),(5,true,.ptr 0 5 2 0),(7,true,.ptr 0 7 4 0),(8,true,.ptr 0 8 5 0),(9,true,.ptr 0 9 6 0)]
noncomputable def body71:Code:=.block 1 (r71_5.seq ((r71_6.seq (.cond (.tmp 42) (.exit 1) .skip)).seq (r71_7.seq (r71_8.seq (r71_9.seq (.block 2 lb71_10.loop))))))
@[simp] theorem u71 (n:Nat) (st:XS):execA Try.prog ann kn n 87 body71 st = execA Try.prog ann kn n 87 (.block 1 (r71_5.seq ((r71_6.seq (.cond (.tmp 42) (.exit 1) .skip)).seq (r71_7.seq (r71_8.seq (r71_9.seq (.block 2 lb71_10.loop))))))) st:=rfl
structure Lv71 (b:Book) (k:Nat) (f:FuncId) (l:LS) (a:VA) (L:Level):Prop where
 p3:L.get 3 = some (0,.box [.fn f [] []])
 p4:L.get 4 = some (1,.box (cellsT b))
 p5:L.get 5 = some (2,.box [i k])
 p7:L.get 7 = some (4,.box [.vec 0 18 3 b.chairs.toNat])
 p8:L.get 8 = some (5,.box [i a.many])
 p9:L.get 9 = some (6,.box (cellsS a.last))
 p18:L.get 18 = some (3,.vec 3 (a.ys.map encI))
 pr:L.get rkey = some (7,.loop (fr71 b) [21,22] r71_4 body71 87 l)
 st:∀ t:St,1≤t.up.length→shutLv t L = L
 len:a.ys.length = b.chairs.toNat
 ok:a.last.ok
 rg:∀ x ∈ a.last.ch ++ a.last.tk,okI x
theorem shut_vecI (t:St) (T:TypeId) (ss:List Int):shutRes t (.vec T (ss.map encI)) = .vec T (ss.map encI):=by
 refine shut_vec fun e he v hv=>?_
 obtain ⟨x,_,rfl⟩:=List.mem_map.1 he
 simp only [encI,List.mem_cons,List.not_mem_nil,or_false] at hv
 rcases hv with rfl
 rfl
section
variable {b:Book} {f:FuncId} {q:Scene→Nat→Bool}
theorem l71a (hb:Fair b) (hq:∀ n s j,s.ok→j < 4→callK Try.prog kn (execA Try.prog ann kn (n+100)) f [.agg (cellsS s),i (j:Nat)] = some (.bool (q s j))) (k:Nat) (s:Scene) (hs:s.ok) (rs:List Level) (c c12:Nat) (hc:3 < c) (l:LS) (many:Int) (last:Scene) :
  ∀ (d j:Nat) (ys:List Int) (L:Level),Lv71 b k f l ⟨ys,many,last⟩ L→j + d = b.chairs.toNat→∃ L',Lv71 b k f l ⟨ys.take j ++ incGo q s j (ys.drop j),many,last⟩ L' ∧
   ∀ n m,d < m→loopA (execA Try.prog ann kn (n + 200) 87) lb71_10 (some ([3,7,12,47,48],[3,7,12,18])) m ⟨c,[(3,true,.ptr 0 3 0 0),(7,true,.ptr 0 7 4 0),(12,true,.ptr (rs.length + 1) 12 c12 0),(47,true,i b.chairs),(48,true,i j)],⟨L :: rs,[(12,c12,.box (cellsS s))]⟩⟩ =
    some (.exit 2,⟨c,[(49,true,.bool false),(3,true,.ptr 0 3 0 0),(7,true,.ptr 0 7 4 0),(12,true,.ptr (rs.length + 1) 12 c12 0),(47,true,i b.chairs),(48,true,i b.chairs)],⟨L' :: rs,[(12,c12,.box (cellsS s))]⟩⟩)
 | 0,j,ys,L,hL,hd=>by
  have hj:(j:Int) = b.chairs:=by have:=hb.ch1; omega
  refine ⟨L,?_,fun n m hm=>?_⟩
  ·have hlen:=hL.len
   simp only at hlen
   rw [List.drop_eq_nil_of_le (by omega),List.take_of_length_le (by omega)]
   simpa [incGo] using hL
  ·obtain ⟨m,rfl⟩:∃ m',m = m' + 1:=⟨m - 1,by omega⟩
   simp [loopA_succ,hj]
 | d + 1,j,ys,L,hL,hd=>by
  obtain ⟨p3,p4,p5,p7,p8,p9,p18,pr,pst,plen,pok,prg⟩:=hL
  simp only at plen
  have h4:=hb.ch4
  have h1:=hb.ch1
  have hj4:j < 4:=by omega
  have hjy:j < ys.length:=by omega
  have hjc:(j:Int) < b.chairs:=by omega
  have hw:IntKind.i64.wrap ((j:Int) + 1) = (j:Int) + 1:=wrap_i64 (by omega) (by omega)
  have hg:(ys.map encI)[j]? = some [i ys[j]]:=by simp [hjy,encI]
  obtain ⟨a0,a1,a2,a3,b0,b1,b2,b3,hcs⟩:=cells_form hs
  have hqj:=fun n=>hq n s j hs hj4
  have ht:=List.drop_eq_getElem_cons hjy
  cases hv:q s j with
  | false =>
   obtain ⟨L',i1,ih⟩:=l71a hb hq k s hs rs c c12 hc l many last d (j + 1) ys L ⟨p3,p4,p5,p7,p8,p9,p18,pr,pst,plen,pok,prg⟩ (by omega)
   refine ⟨L',?_,fun n m hm=>?_⟩
   ·rw [ht]
    simp only [incGo,hv,Bool.false_eq_true,if_false]
    rw [List.take_succ_eq_append_getElem hjy,List.append_assoc] at i1
    exact i1
   ·obtain ⟨m,rfl⟩:∃ m',m = m' + 1:=⟨m - 1,by omega⟩
    have ih:=ih n m (by omega)
    rw [loopA_succ]
    simp only [hv,hcs] at hqj ih ⊢
    simp at ih
    simp [hjc,hw,p3,p7,hqj,ih]
    done
  | true =>
   have hy:(ys.set j (wrap1 ys[j])).map encI = (ys.map encI).set j [i (wrap1 ys[j])]:=List.map_set
   have hL':Lv71 b k f l ⟨ys.set j (wrap1 ys[j]),many,last⟩ ((18,3,.vec 3 ((ys.map encI).set j [i (wrap1 ys[j])])) :: L) :=
    ⟨by simpa using p3,by simpa using p4,by simpa using p5,by simpa using p7,by simpa using p8,by simpa using p9,by simp [← hy],by simpa [rkey] using pr,fun t ht=>by rw [shutLv_cons,pst t ht,← hy,shut_vecI],by simpa using plen,pok,prg⟩
   obtain ⟨L',i1,ih⟩:=l71a hb hq k s hs rs c c12 hc l many last d (j + 1) _ _ hL' (by omega)
   refine ⟨L',?_,fun n m hm=>?_⟩
   ·rw [ht]
    simp only [incGo,hv,if_true]
    rw [take_set rfl hjy,List.append_assoc,List.drop_set_of_lt (by omega)] at i1
    exact i1
   ·obtain ⟨m,rfl⟩:∃ m',m = m' + 1:=⟨m - 1,by omega⟩
    have ih:=ih n m (by omega)
    rw [loopA_succ]
    simp only [hv,hcs,wrap1] at hqj ih ⊢
    simp at ih
    have hmx:(j:Int) < max b.chairs 0:=by omega
    have hcl:b.chairs≤(ys.length:Int):=by omega
    simp [hjc,hw,p3,p7,p18,hqj,ih,hg,Level.put,hc,hmx,hcl,hjy,encI]
    done
theorem step71 (hb:Fair b) {k:Nat} (hk:k≤b.lines.length) (hq:∀ n s j,s.ok→j < 4→callK Try.prog kn (execA Try.prog ann kn (n+100)) f [.agg (cellsS s),i (j:Nat)] = some (.bool (q s j))) :
  StepOK b (Lv71 b k f .ready) (fun a _ ss=>stepV q (ss.getD k scene0) a) 7 600:=by
 intro a L L1 rest loc c fr ls ss g9 g14 hL hc hp p9' p14 hst
 obtain ⟨ys,many,last⟩:=a
 have hL0:=hL
 obtain ⟨p3,p4,p5,p7,p8,p9,p18,pr,pst,plen,pok,prg⟩:=hL
 simp only at p8 p9 p18 plen pok prg
 have hks:k < ss.length:=by have:=hp.sl; omega
 have hm:=(hp.met k hks).1
 have hok:=hm.ok
 have hgk:(List.map cellsS ss)[k]? = some (cellsS ss[k]):=by simp [hks]
 obtain ⟨a0,a1,a2,a3,b0,b1,b2,b3,e1,e2,hcs⟩:=cells_parts hok
 obtain ⟨c0,c1,c2,c3,d0,d1,d2,d3,f1,f2,hcl⟩:=cells_parts pok
 rw [hcs] at hgk
 rw [hcl] at p9
 have hki:(k:Int) < (b.lines.length:Int) + 1:=by omega
 have hsl:=hp.sl
 have hst':=fun t h=>hst t h
 simp only [List.map_cons,List.map_append,List.map_nil,List.cons.injEq] at hst'
 have hgd:ss.getD k scene0 = ss[k]:=by simp [List.getD_eq_getElem?_getD,hks]
 have hge:ss[k]?.getD scene0 = ss[k]:=by simp [hks]
 have hun:∀ A:Level,unsnoc (A :: L1 :: (rest ++ [loc])) = some (A :: L1 :: rest,loc):=fun A=>by
  rw [← List.cons_append,← List.cons_append,unsnoc_snoc]
 have hsr:∀ t:St,(L1 :: (rest ++ [loc])).length + 1≤t.up.length→(rest.map (shutLv t) = rest∧shutLv t loc = loc):=fun t h=>by
  have:=(hst' t h).2
  exact ⟨List.append_inj_left' this rfl,by simpa using List.append_inj_right' this rfl⟩
 have h1s:∀ t:St,(L1 :: (rest ++ [loc])).length + 1≤t.up.length→shutLv t L1 = L1:=fun t h=>(hst' t h).1
 have hkl:=hb.ln
 have oc:∀ x ∈ [a0,a1,a2,a3,c0,c1,c2,c3],okI x:=by
  intro x hx
  have h1:=fun y (hy:y ∈ ss[k].ch)=>hm.ch y hy
  rw [e1] at h1
  rw [f1] at prg
  simp only [List.mem_cons,List.not_mem_nil,or_false,List.mem_append] at hx h1 prg
  rcases hx with h | h | h | h | h | h | h | h
  ·have:=h1 x (by simp [h]); exact okI_of (by omega) (by omega)
  ·have:=h1 x (by simp [h]); exact okI_of (by omega) (by omega)
  ·have:=h1 x (by simp [h]); exact okI_of (by omega) (by omega)
  ·have:=h1 x (by simp [h]); exact okI_of (by omega) (by omega)
  ·exact prg x (by simp [h])
  ·exact prg x (by simp [h])
  ·exact prg x (by simp [h])
  ·exact prg x (by simp [h])
 have ot:∀ x ∈ [b0,b1,b2,b3,d0,d1,d2,d3],okI x:=by
  intro x hx
  have h1:=fun y (hy:y ∈ ss[k].tk)=>hm.tk y hy
  rw [e2] at h1
  rw [f2] at prg
  simp only [List.mem_cons,List.not_mem_nil,or_false,List.mem_append] at hx h1 prg
  rcases hx with h | h | h | h | h | h | h | h
  ·have:=h1 x (by simp [h]); exact okI_of (by omega) (by omega)
  ·have:=h1 x (by simp [h]); exact okI_of (by omega) (by omega)
  ·have:=h1 x (by simp [h]); exact okI_of (by omega) (by omega)
  ·have:=h1 x (by simp [h]); exact okI_of (by omega) (by omega)
  ·exact prg x (by simp [h])
  ·exact prg x (by simp [h])
  ·exact prg x (by simp [h])
  ·exact prg x (by simp [h])
 have q1:=evEq111 oc
 have q2:=evEq111 ot
 rw [← e1,← f1] at q1
 rw [← e2,← f2] at q2
 by_cases hsame:0 < many∧ss[k].ch = last.ch∧ss[k].tk = last.tk
 ·have hm0:decide (0 < many) = true:=by simpa using hsame.1
  have q1:evEq Try.prog 111 [i a0,i a1,i a2,i a3] [i c0,i c1,i c2,i c3] = some true:=by rw [q1]; simp [hsame.2.1]
  have q2:evEq Try.prog 111 [i b0,i b1,i b2,i b3] [i d0,i d1,i d2,i d3] = some true:=by rw [q2]; simp [hsame.2.2]
  refine ⟨(rkey,7,.loop (fr71 b) [21,22] r71_4 body71 87 .ready) :: (rkey,7,.loop (fr71 b) [21,22] r71_4 body71 87 .busy) :: L,c + 1,?_,by omega,fun n=>?_⟩
  ·have:stepV q (ss.getD k scene0) ⟨ys,many,last⟩ = ⟨ys,many,last⟩:=by unfold stepV; rw [hgd,if_pos hsame]
   simp only [this]
   exact ⟨by simpa [rkey] using p3,by simpa [rkey] using p4,by simpa [rkey] using p5,by simpa [rkey] using p7,by simpa [rkey] using p8,by simpa [rkey,hcl] using p9,by simpa [rkey] using p18,by simp,fun t ht=>by simp [pst t ht],plen,pok,prg⟩
  ·rw [yld_run (by simpa using pr) rfl (by omega)]
   simp only [putPs,Fr.put,x71_4,fr71]
   simp
   rw [roundB_normal (fr0:=fr71 b) (ps:=[21,22]) (asg:=r71_4) (body':=body71) (N:=87) (by simpa using pr) (by omega)]
   generalize hB:Res.loop (fr71 b) [21,22] r71_4 body71 87 LS.busy = B
   simp [p3,p4,p5,p7,p8,p9,p14,hgk,hki,hsl,Level.put,rkey,q1,q2,hm0]
   subst hB
   rw [roundE_normal (fr0:=fr71 b) (ps:=[21,22]) (asg:=r71_4) (body:=body71) (N:=87) (by simp) (hun _) (by simp) (by omega)]
   simp [pst,h1s,hsr,Level.put,fr71]
   done
 ·have hcon:(decide (0 < many) && (decide (ss[k].ch = last.ch) && decide (ss[k].tk = last.tk))) = false:=by
   rw [Bool.eq_false_iff]
   intro h
   simp only [Bool.and_eq_true,decide_eq_true_eq] at h
   exact hsame h
  have hL1:Lv71 b k f .busy ⟨ys,wrap1 many,ss[k]⟩ ((8,5,.box [i (wrap1 many)]) :: (9,6,.box (cellsS ss[k])) :: (rkey,7,.loop (fr71 b) [21,22] r71_4 body71 87 .busy) :: L) :=
   ⟨by simpa [rkey] using p3,by simpa [rkey] using p4,by simpa [rkey] using p5,by simpa [rkey] using p7,by simp [rkey],by simp [rkey,hcs],by simpa [rkey] using p18,by simp [rkey],fun t ht=>by simp [pst t ht,hcs],plen,hok,by
    intro x hx
    rw [e1,e2] at hx
    have h1:=oc x
    have h2:=ot x
    simp only [List.mem_cons,List.not_mem_nil,or_false,List.mem_append] at hx h1 h2
    rcases hx with (h | h | h | h) | (h | h | h | h)
    ·exact h1 (by simp [h])
    ·exact h1 (by simp [h])
    ·exact h1 (by simp [h])
    ·exact h1 (by simp [h])
    ·exact h2 (by simp [h])
    ·exact h2 (by simp [h])
    ·exact h2 (by simp [h])
    ·exact h2 (by simp [h])⟩
  obtain ⟨L',r1,r2⟩:=l71a hb hq k ss[k] hok (L1 :: (rest ++ [loc])) (c + 1) c (by omega) .busy (wrap1 many) ss[k] b.chairs.toNat 0 ys _ hL1 (by omega)
  simp only [List.take_zero,List.nil_append,List.drop_zero] at r1
  have hr:=r1
  obtain ⟨z3,z4,z5,z7,z8,z9,z18,zr,zst,zlen,zok,zrg⟩:=r1
  refine ⟨(rkey,7,.loop (fr71 b) [21,22] r71_4 body71 87 .ready) :: L',c + 1,?_,by omega,fun n=>?_⟩
  ·have:stepV q (ss.getD k scene0) ⟨ys,many,last⟩ = ⟨incGo q ss[k] 0 ys,wrap1 many,ss[k]⟩:=by unfold stepV; rw [hgd,if_neg hsame]
   simp only [this]
   exact ⟨by simpa [rkey] using z3,by simpa [rkey] using z4,by simpa [rkey] using z5,by simpa [rkey] using z7,by simpa [rkey] using z8,by simpa [rkey] using z9,by simpa [rkey] using z18,by simp,fun t ht=>by simp [zst t ht],zlen,zok,zrg⟩
  ·rw [yld_run (by simpa using pr) rfl (by omega)]
   simp only [putPs,Fr.put,x71_4,fr71]
   simp
   rw [roundB_normal (fr0:=fr71 b) (ps:=[21,22]) (asg:=r71_4) (body':=body71) (N:=87) (by simpa using pr) (by omega)]
   generalize hB:Res.loop (fr71 b) [21,22] r71_4 body71 87 LS.busy = B at r2
   have r3:=r2 (n + 392) (n + 592) (by have:=hb.ch4; omega)
   have e6:6 < c + 1:=by omega
   have e5:5 < c + 1:=by omega
   have hcp:max b.chairs 0 = b.chairs:=by have:=hb.ch1; omega
   simp only [hcs,Nat.add_assoc,Nat.reduceAdd,wrap1,rkey] at r3
   simp at r3
   have fin:∀ X:Option (Exit × XS),X = some (.normal,⟨c + 1,X.elim [] (fun x=>x.2.fr),⟨L' :: L1 :: (rest ++ [loc]),[(12,c,.box (cellsS ss[k]))]⟩⟩)→roundE fr 0 1000000 7 X = some (.bool true,⟨c + 1,fr,⟨((rkey,7,.loop (fr71 b) [21,22] r71_4 body71 87 .ready) :: L') :: L1 :: rest,loc⟩⟩):=by
    intro X hX
    rw [hX,show (1000000:Nat) = rkey from rfl,roundE_normal (fr0:=fr71 b) (ps:=[21,22]) (asg:=r71_4) (body:=body71) (N:=87) (by simpa using zr) (hun _) (by simp) (by omega)]
    simp [zst,h1s,hsr,Level.put]
   simp only [fr71] at fin
   generalize hd1:decide (ss[k].ch = last.ch) = x1 at q1 hcon
   generalize hd2:decide (ss[k].tk = last.tk) = x2 at q2 hcon
   cases hm0:decide (0 < many) with
   | false =>
    simp [p3,p4,p5,p7,p8,p9,p14,hgk,hki,hsl,Level.put,rkey,hm0,e5,e6,r3,hcp]
    refine fin _ ?_
    simp [hcs]
    done
   | true =>
    simp only [hm0,Bool.true_and] at hcon
    cases x1 with
    | false =>
     simp [p3,p4,p5,p7,p8,p9,p14,hgk,hki,hsl,Level.put,rkey,hm0,e5,e6,r3,hcp,q1]
     refine fin _ ?_
     simp [hcs]
     done
    | true =>
     simp only [Bool.true_and] at hcon
     subst hcon
     simp [p3,p4,p5,p7,p8,p9,p14,hgk,hki,hsl,Level.put,rkey,hm0,e5,e6,r3,hcp,q1,q2]
     refine fin _ ?_
     simp [hcs]
     done
end
def verd (many y:Int):Int:=if y = many then 1 else if y = 0 then 2 else 3
theorem l71b (C:Int) (h1:1≤C) (h4:C≤4) (many:Int) (c:Nat) (hc:6 < c):∀ (d j:Nat) (ys:List Int),ys.length = C.toNat→j + d = C.toNat→∀ n m,d < m →
  loopA (execA Try.prog ann kn (n + 100) 87) lb71_16 (some ([7,8,63,64,65],[7,8,18])) m ⟨c,[(7,true,.ptr 0 7 4 0),(8,true,.ptr 0 8 5 0),(63,true,.vec 0 18 3 C.toNat),(64,true,i C),(65,true,i j)],⟨[],[(7,4,.box [.vec 0 18 3 C.toNat]),(8,5,.box [i many]),(18,3,.vec 3 (ys.map encI))]⟩⟩ =
   some (.exit 4,⟨c,[(66,true,.bool false),(7,true,.ptr 0 7 4 0),(8,true,.ptr 0 8 5 0),(63,true,.vec 0 18 3 C.toNat),(64,true,i C),(65,true,i C)],⟨[],[(7,4,.box [.vec 0 18 3 C.toNat]),(8,5,.box [i many]),(18,3,.vec 3 ((ys.take j ++ (ys.drop j).map (verd many)).map encI))]⟩⟩)
 | 0,j,ys,hl,hd,n,m + 1,hm=>by
  have hj:(j:Int) = C:=by omega
  rw [List.drop_eq_nil_of_le (by omega),List.take_of_length_le (by omega)]
  simp [loopA_succ,hj]
 | d + 1,j,ys,hl,hd,n,m + 1,hm=>by
  have hjc:(j:Int) < C:=by omega
  have hjy:j < ys.length:=by omega
  have hw:IntKind.i64.wrap ((j:Int) + 1) = (j:Int) + 1:=wrap_i64 (by omega) (by omega)
  have ih:=l71b C h1 h4 many c hc d (j + 1) (ys.set j (verd many ys[j])) (by simpa using hl) (by omega) n m (by omega)
  have hmx:(j:Int) < max C 0:=by omega
  have hcl:C≤(ys.length:Int):=by omega
  have e3:3 < c:=by omega
  rw [take_set rfl hjy,List.append_assoc,List.drop_set_of_lt (by omega)] at ih
  rw [loopA_succ,List.drop_eq_getElem_cons hjy]
  have hset:∀ v:Int,(ys.set j v).map encI = (ys.map encI).set j [i v]:=fun v=>List.map_set
  rw [hset] at ih
  simp only [List.map_cons,List.singleton_append,verd] at ih ⊢
  generalize hd1:decide (ys[j] = many) = x1
  generalize hd2:decide (ys[j] = 0) = x2
  cases x1 with
  | true =>
   have h1:ys[j] = many:=by simpa using hd1
   simp only [h1,if_true] at ih ⊢
   simp at ih
   simp [hjc,hw,hjy,hmx,hcl,e3,encI,hd1,ih]
   done
  | false =>
   have h1:¬ ys[j] = many:=by simpa using hd1
   simp only [h1,if_false] at ih ⊢
   cases x2 with
   | true =>
    have h2:ys[j] = 0:=by simpa using hd2
    simp only [h2,if_true] at ih ⊢
    simp at ih
    simp [hjc,hw,hjy,hmx,hcl,e3,encI,hd1,hd2,ih]
    done
   | false =>
    have h2:¬ ys[j] = 0:=by simpa using hd2
    simp only [h2,if_false] at ih ⊢
    simp at ih
    simp [hjc,hw,hjy,hmx,hcl,e3,encI,hd1,hd2,ih]
    done
def verdsP (b:Book) (q:Scene→Nat→Bool) (k:Nat):List Int :=
 let a:=runT (fun a _ ss=>stepV q (ss.getD k scene0) a) ⟨List.replicate b.chairs.toNat 0,0,scene0⟩ (truthsP b)
 a.ys.map (verd a.many)
theorem k71 (n:Nat) (b:Book) (hb:Fair b) (k:Nat) (hk:k≤b.lines.length) (f:FuncId) (q:Scene→Nat→Bool) (hq:∀ n s j,s.ok→j < 4→callK Try.prog kn (execA Try.prog ann kn (n+100)) f [.agg (cellsS s),i (j:Nat)] = some (.bool (q s j))) :
  callK Try.prog kn (execA Try.prog ann kn (n+3000)) 71 [.agg [.fn f [] []],.agg (cellsT b),i k] = some (sl ((verdsP b q k).map encI)):=by
 rw [callK_of rfl,call0_eq Try.func71 b71 rfl (by simp [cellsT,encL,encC])]
 have q79:=fun n=>k79 n b
 have h1:=hb.ch1
 have h4:=hb.ch4
 have m1:b.chairs.toNat * 8≤140737488355328:=by omega
 have m2:b.chairs.toNat≤maxLen:=by unfold maxLen; omega
 have m3:0≤b.chairs:=by omega
 have hz:(List.replicate b.chairs.toNat (0:Int)).map encI = List.replicate b.chairs.toNat [.int .i64 0]:=by simp [encI]
 have hL0:Lv71 b k f .ready ⟨List.replicate b.chairs.toNat 0,0,scene0⟩ [(rkey,7,.loop (fr71 b) [21,22] r71_4 body71 87 .ready),(3,0,.box [.fn f [] []]),(4,1,.box (cellsT b)),(5,2,.box [i k]),(7,4,.box [.vec 0 18 3 b.chairs.toNat]),(8,5,.box [i 0]),(9,6,.box [i 0,i 0,i 0,i 0,i 0,i 0,i 0,i 0,i 0,i 0]),(18,3,.vec 3 (List.replicate b.chairs.toNat [.int .i64 0]))]:=by
  refine ⟨by simp [rkey],by simp [rkey],by simp [rkey],by simp [rkey],by simp [rkey],by simp [rkey,cellsS,scene0],by simp [rkey,hz],by simp,fun t ht=>?_,by simp,⟨rfl,rfl⟩,?_⟩
  ·have e0:¬ 0 = t.up.length:=by omega
   obtain ⟨up,loc⟩:=t
   simp only at e0
   simp only [shutLv_cons,shutLv_nil,← hz,shut_vecI]
   simp [cellsT,e0]
   done
  ·intro x hx
   simp [scene0] at hx
   subst hx
   exact okI_of (by omega) (by omega)
 obtain ⟨L',c',r1,r2,r3⟩:=k102 hb (fun a L h=>h.st) (step71 hb hk hq) _ _ hL0 (fr71 b)
 have hv:verdsP b q k = (runT (fun a _ ss=>stepV q (ss.getD k scene0) a) ⟨List.replicate b.chairs.toNat 0,0,scene0⟩ (truthsP b)).ys.map (verd (runT (fun a _ ss=>stepV q (ss.getD k scene0) a) ⟨List.replicate b.chairs.toNat 0,0,scene0⟩ (truthsP b)).many):=rfl
 rw [hv]
 generalize runT (fun a _ ss=>stepV q (ss.getD k scene0) a) ⟨List.replicate b.chairs.toNat 0,0,scene0⟩ (truthsP b) = R at r1 ⊢
 obtain ⟨p3,p4,p5,p7,p8,p9,p18,pr,pst,plen,pok,prg⟩:=r1
 have hlo:=l71b b.chairs h1 h4 R.many c' (by omega) b.chairs.toNat 0 R.ys plen (by omega) (n + 2892) (n + 2992) (by omega)
 have r3:=r3 (n + 793)
 simp only [cellsT,fr71,Nat.add_assoc,Nat.reduceAdd] at q79 r3
 simp [c71,argFr,cellsT,encL,encC,q79,exec_range,m1,m2,m3]
 rw [xRange_eq rfl]
 simp
 rw [show (Code.block 1 (r71_5.seq ((r71_6.seq (Code.cond (Operand.tmp 42) (Code.exit 1) Code.skip)).seq (r71_7.seq (r71_8.seq (r71_9.seq (Code.block 2 lb71_10.loop))))))) = body71 from rfl]
 simp only [r3]
 rw [rE_ready (fr0:=fr71 b) (ps:=[21,22]) (asg:=r71_4) (body:=body71) (N:=87) (by simpa using pr) (by omega)]
 have hcp:max b.chairs 0 = b.chairs:=by omega
 simp only [List.take_zero,List.nil_append,List.drop_zero] at hlo
 simp at hlo
 simp [p7,p8,p18,Level.put,rkey,hcp,hlo]
 rw [if_pos (by omega),List.take_of_length_le (by simp; omega)]
 cases hys:R.ys with
 | nil=>rw [hys] at plen; simp at plen; omega
 | cons y ys=>simp [sl,encI]
end Go.Proofs.Try.Op
/- Own calls, by simp. No condition. -/
open Go Go.Pg Go.Proofs
namespace Go.Pg
variable {P:Program} {A:Ann} {kn:CF0} {n:Nat} {fr:Fr} {s:St}
noncomputable def oc2 (d c:Nat) (fr:Fr) (s:St):Option V→Option XS→Option XS
 | some r,_=>some ⟨c + 1,(d,true,r.ren (fun _=>c) s.up.length) :: fr,s.put s.up.length d c .dead⟩
 | none,z=>z
@[simp] theorem oc2_some (d c:Nat) (r:V) (z:Option XS):oc2 d c fr s (some r) z = some ⟨c + 1,(d,true,r.ren (fun _=>c) s.up.length) :: fr,s.put s.up.length d c .dead⟩:=rfl
noncomputable def oc1 (d c:Nat) (fr:Fr) (s:St) (F:List V→Option V):Option (List V)→Option XS→Option XS
 | some vs,z=>oc2 d c fr s (F vs) z
 | none,z=>z
@[simp] theorem oc1_some (d c:Nat) (F:List V→Option V) (vs:List V) (z:Option XS):oc1 d c fr s F (some vs) z = oc2 d c fr s (F vs) z:=rfl
@[simp] theorem own_func {f:FuncId} (hS:sliceR P f = false) (d c:Nat) (args:List Operand):stepK P (envA P A kn n) (some d) (.call true none (.func f) args) ⟨c,fr,s⟩ =
  oc1 d c fr s (fun vs=>callW P kn (execA P A kn n) f (vs.map weakV)) (mapO (rdX fr) args) (xCall (envA P A kn n).cf (envA P A kn n).cy (some d) (.func f) args ⟨c,fr,s⟩):=by
 show xCalF (envA P A kn n) true (some d) (.func f) args ⟨c,fr,s⟩ = _
 unfold xCalF
 show (match xCallO (envA P A kn n).co (some d) (.func f) args ⟨c,fr,s⟩ with | some st'=>some st' | none=>_) = _
 unfold xCallO
 have hf:rdX fr (.func f) = some (.fn f [] []):=rfl
 simp only [hf]
 cases mapO (rdX fr) args with
 | none=>rfl
 | some vs =>
  simp only [oc1_some,List.nil_append,List.append_nil]
  have:(envA P A kn n).co f (vs.map weakV) d = (match callW P kn (execA P A kn n) f (vs.map weakV) with | some r=>some ⟨.dead,some r⟩ | none=>none):=by
   show callO P kn (fun _ _ _=>none) (execA P A kn n) f _ d = _
   unfold callO
   simp only [hS]
   cases callW P kn (execA P A kn n) f (vs.map weakV) <;> rfl
  rw [this]
  cases callW P kn (execA P A kn n) f (vs.map weakV) with
  | none=>rfl
  | some r=>rfl
noncomputable def od2 (d c:Nat) (fr:Fr) (s:St):Option V→Option XS
 | some r=>some ⟨c + 1,(d,true,r.ren (fun _=>c) s.up.length) :: fr,s.put s.up.length d c .dead⟩
 | none=>none
@[simp] theorem od2_some (d c:Nat) (r:V):od2 d c fr s (some r) = some ⟨c + 1,(d,true,r.ren (fun _=>c) s.up.length) :: fr,s.put s.up.length d c .dead⟩:=rfl
noncomputable def od1 (d c:Nat) (fr:Fr) (s:St) (F:List V→Option V):Option (List V)→Option XS
 | some vs=>od2 d c fr s (F vs)
 | none=>none
@[simp] theorem od1_some (d c:Nat) (F:List V→Option V) (vs:List V):od1 d c fr s F (some vs) = od2 d c fr s (F vs):=rfl
@[simp] theorem own_func0 {f:FuncId} (hS:sliceR P f = false) (d c:Nat) (args:List Operand):stepK0 P (envA P A kn n) (some d) (.call true none (.func f) args) ⟨c,fr,s⟩ =
  nw (od1 d c fr s (fun vs=>callW P kn (execA P A kn n) f (vs.map weakV)) (mapO (rdX fr) args)):=by
 show noW (xCallO (envA P A kn n).co (some d) (.func f) args ⟨c,fr,s⟩) = _
 rw [noW_nw]
 congr 1
 unfold xCallO
 have hf:rdX fr (.func f) = some (.fn f [] []):=rfl
 simp only [hf]
 cases mapO (rdX fr) args with
 | none=>rfl
 | some vs =>
  simp only [od1_some,List.nil_append,List.append_nil]
  have:(envA P A kn n).co f (vs.map weakV) d = (match callW P kn (execA P A kn n) f (vs.map weakV) with | some r=>some ⟨.dead,some r⟩ | none=>none):=by
   show callO P kn (fun _ _ _=>none) (execA P A kn n) f _ d = _
   unfold callO
   simp only [hS]
   cases callW P kn (execA P A kn n) f (vs.map weakV) <;> rfl
  rw [this]
  cases callW P kn (execA P A kn n) f (vs.map weakV) with
  | none=>rfl
  | some r=>rfl
@[simp] theorem ren_sl {σ:Nat→Nat} {δ:Nat} (es:List (List V)):(sl es).ren σ δ = sl (es.map (List.map (V.ren σ δ))):=by cases es <;> simp [sl]
end Go.Pg
namespace Go.Proofs.Try.Op
@[simp] theorem sr_21:sliceR Try.prog 21 = false:=by kernel_rfl
@[simp] theorem sr_23:sliceR Try.prog 23 = false:=by kernel_rfl
@[simp] theorem sr_26:sliceR Try.prog 26 = false:=by kernel_rfl
@[simp] theorem sr_27:sliceR Try.prog 27 = false:=by kernel_rfl
@[simp] theorem sr_28:sliceR Try.prog 28 = false:=by kernel_rfl
@[simp] theorem sr_29:sliceR Try.prog 29 = false:=by kernel_rfl
@[simp] theorem sr_31:sliceR Try.prog 31 = false:=by kernel_rfl
@[simp] theorem sr_32:sliceR Try.prog 32 = false:=by kernel_rfl
@[simp] theorem sr_33:sliceR Try.prog 33 = false:=by kernel_rfl
@[simp] theorem sr_34:sliceR Try.prog 34 = false:=by kernel_rfl
@[simp] theorem sr_36:sliceR Try.prog 36 = true:=by kernel_rfl
@[simp] theorem sr_37:sliceR Try.prog 37 = false:=by kernel_rfl
@[simp] theorem sr_38:sliceR Try.prog 38 = false:=by kernel_rfl
@[simp] theorem sr_39:sliceR Try.prog 39 = false:=by kernel_rfl
@[simp] theorem sr_40:sliceR Try.prog 40 = false:=by kernel_rfl
@[simp] theorem sr_41:sliceR Try.prog 41 = false:=by kernel_rfl
@[simp] theorem sr_42:sliceR Try.prog 42 = false:=by kernel_rfl
@[simp] theorem sr_43:sliceR Try.prog 43 = true:=by kernel_rfl
@[simp] theorem sr_44:sliceR Try.prog 44 = false:=by kernel_rfl
@[simp] theorem sr_45:sliceR Try.prog 45 = false:=by kernel_rfl
@[simp] theorem sr_46:sliceR Try.prog 46 = false:=by kernel_rfl
@[simp] theorem sr_47:sliceR Try.prog 47 = false:=by kernel_rfl
@[simp] theorem sr_48:sliceR Try.prog 48 = false:=by kernel_rfl
@[simp] theorem sr_49:sliceR Try.prog 49 = false:=by kernel_rfl
@[simp] theorem sr_50:sliceR Try.prog 50 = true:=by kernel_rfl
@[simp] theorem sr_51:sliceR Try.prog 51 = true:=by kernel_rfl
@[simp] theorem sr_52:sliceR Try.prog 52 = false:=by kernel_rfl
@[simp] theorem sr_53:sliceR Try.prog 53 = false:=by kernel_rfl
@[simp] theorem sr_54:sliceR Try.prog 54 = false:=by kernel_rfl
@[simp] theorem sr_55:sliceR Try.prog 55 = false:=by kernel_rfl
@[simp] theorem sr_56:sliceR Try.prog 56 = false:=by kernel_rfl
@[simp] theorem sr_57:sliceR Try.prog 57 = false:=by kernel_rfl
@[simp] theorem sr_58:sliceR Try.prog 58 = false:=by kernel_rfl
@[simp] theorem sr_61:sliceR Try.prog 61 = false:=by kernel_rfl
@[simp] theorem sr_62:sliceR Try.prog 62 = false:=by kernel_rfl
@[simp] theorem sr_63:sliceR Try.prog 63 = false:=by kernel_rfl
@[simp] theorem sr_64:sliceR Try.prog 64 = false:=by kernel_rfl
@[simp] theorem sr_65:sliceR Try.prog 65 = false:=by kernel_rfl
@[simp] theorem sr_66:sliceR Try.prog 66 = false:=by kernel_rfl
@[simp] theorem sr_67:sliceR Try.prog 67 = false:=by kernel_rfl
@[simp] theorem sr_68:sliceR Try.prog 68 = false:=by kernel_rfl
@[simp] theorem sr_69:sliceR Try.prog 69 = false:=by kernel_rfl
@[simp] theorem sr_70:sliceR Try.prog 70 = false:=by kernel_rfl
@[simp] theorem sr_71:sliceR Try.prog 71 = true:=by kernel_rfl
@[simp] theorem sr_72:sliceR Try.prog 72 = false:=by kernel_rfl
@[simp] theorem sr_73:sliceR Try.prog 73 = false:=by kernel_rfl
@[simp] theorem sr_74:sliceR Try.prog 74 = false:=by kernel_rfl
@[simp] theorem sr_75:sliceR Try.prog 75 = false:=by kernel_rfl
@[simp] theorem sr_76:sliceR Try.prog 76 = false:=by kernel_rfl
@[simp] theorem sr_77:sliceR Try.prog 77 = false:=by kernel_rfl
@[simp] theorem sr_78:sliceR Try.prog 78 = false:=by kernel_rfl
@[simp] theorem sr_81:sliceR Try.prog 81 = true:=by kernel_rfl
@[simp] theorem sr_83:sliceR Try.prog 83 = true:=by kernel_rfl
@[simp] theorem sr_84:sliceR Try.prog 84 = false:=by kernel_rfl
@[simp] theorem sr_86:sliceR Try.prog 86 = false:=by kernel_rfl
@[simp] theorem sr_88:sliceR Try.prog 88 = false:=by kernel_rfl
@[simp] theorem sr_89:sliceR Try.prog 89 = false:=by kernel_rfl
@[simp] theorem sr_90:sliceR Try.prog 90 = false:=by kernel_rfl
@[simp] theorem sr_91:sliceR Try.prog 91 = false:=by kernel_rfl
@[simp] theorem sr_92:sliceR Try.prog 92 = false:=by kernel_rfl
@[simp] theorem sr_93:sliceR Try.prog 93 = false:=by kernel_rfl
@[simp] theorem sr_94:sliceR Try.prog 94 = false:=by kernel_rfl
@[simp] theorem sr_95:sliceR Try.prog 95 = false:=by kernel_rfl
@[simp] theorem sr_96:sliceR Try.prog 96 = false:=by kernel_rfl
@[simp] theorem sr_97:sliceR Try.prog 97 = false:=by kernel_rfl
@[simp] theorem sr_98:sliceR Try.prog 98 = false:=by kernel_rfl
@[simp] theorem sr_99:sliceR Try.prog 99 = false:=by kernel_rfl
@[simp] theorem sr_100:sliceR Try.prog 100 = false:=by kernel_rfl
@[simp] theorem sr_101:sliceR Try.prog 101 = false:=by kernel_rfl
@[simp] theorem sr_104:sliceR Try.prog 104 = false:=by kernel_rfl
@[simp] theorem sr_105:sliceR Try.prog 105 = false:=by kernel_rfl
@[simp] theorem sr_109:sliceR Try.prog 109 = false:=by kernel_rfl
@[simp] theorem sr_110:sliceR Try.prog 110 = false:=by kernel_rfl
@[simp] theorem sr_112:sliceR Try.prog 112 = false:=by kernel_rfl
@[simp] theorem sr_113:sliceR Try.prog 113 = false:=by kernel_rfl
@[simp] theorem sr_119:sliceR Try.prog 119 = false:=by kernel_rfl
@[simp] theorem weakC_fn (f:FuncId) (x y:List V):weakC (.fn f x y) = .fn f x y:=rfl
@[simp] theorem build_115 (ps:List (Nat × V)):evBuild Try.prog 115 ps = if (ps.all fun p=>flatOk p.2) = true then ma1 .agg (fillV (fun i=>[(0,1)][i]?) [.raw .nilFunc] ps) else none:=build_of (by kernel_rfl) Try.underlying115 (by kernel_rfl) (by kernel_rfl) ps
def chP (s:Scene) (j:Nat):Bool:=!decide (s.ch.getD j 0 = 0)
def tkP (s:Scene) (j:Nat):Bool:=!decide (s.tk.getD j 0 = 0)
theorem asked0 {b:Book} {fine:Bool} (h:askedP b fine = 0):checkP b = 0∧fine = true∧possP b = true:=by
 unfold askedP at h
 split at h
 ·rename_i h0
  split at h
  ·rename_i h1
   split at h
   ·rename_i h2; exact ⟨h0,h1,h2⟩
   ·omega
  ·omega
 ·rename_i h0; exact absurd h h0
def outV (b:Book) (k:Int):V:=if askedP b (inB k 0 b.lines.length) = 0 then .tup [sl ((verdsP b chP k.toNat).map encI),sl ((verdsP b tkP k.toNat).map encI),i 0] else .tup [.nil,.nil,i (askedP b (inB k 0 b.lines.length))]
theorem k21 (n:Nat) (b:Book) (k:Int):callK Try.prog kn (execA Try.prog ann kn (n+3200)) 21 [.agg (cellsT b),i k] = some (outV b k):=by
 rw [callK_of rfl,call0_eq Try.func21 b21 rfl (by simp [cellsT,encL,encC])]
 have q68:=fun n=>k68 n b (inB k 0 b.lines.length)
 unfold outV
 by_cases he:askedP b (inB k 0 b.lines.length) = 0
 ·obtain ⟨h0,h1,h2⟩:=asked0 he
  obtain ⟨k,rfl⟩:∃ j:Nat,k = j:=⟨k.toNat,by simp [inB] at h1; omega⟩
  have hk:k≤b.lines.length:=by simp [inB] at h1; omega
  have q1:=fun n=>k71 n b (fair_of h0) k hk 70 chP (fun n s j hs hj=>k70 n s hs j hj)
  have q2:=fun n=>k71 n b (fair_of h0) k hk 72 tkP (fun n s j hs hj=>k72 n s hs j hj)
  rw [if_pos he]
  rw [he] at q68
  simp only [cellsT,Int.toNat_natCast] at q68 q1 q2 ⊢
  simp [c21,argFr,encL,encC,q68,q1,q2,encI]
  done
 ·have e:decide (askedP b (inB k 0 b.lines.length) = 0) = false:=by simpa using he
  rw [if_neg he]
  simp only [cellsT] at q68 ⊢
  generalize askedP b (inB k 0 b.lines.length) = A at q68 e ⊢
  simp [c21,argFr,encL,encC,q68,e]
  done
def boundsP (b:Book) (φ:Scene→Int) (k:Nat):Int × Int:=(runT (fun a _ ss=>widen a (φ (ss.getD k scene0))) none (truthsP b)).getD (0,0)
def moneyV (b:Book) (k:Int):V:=if askedP b (inB k 0 b.lines.length) = 0 then .tup [.agg [i (boundsP b Scene.money k.toNat).1,i (boundsP b Scene.money k.toNat).2],i 0] else .tup [.agg [i 0,i 0],i (askedP b (inB k 0 b.lines.length))]
def mixedV (b:Book):V:=if askedP b true = 0 then .tup [.agg [i (boundsP b Scene.mixed b.lines.length).1,i (boundsP b Scene.mixed b.lines.length).2],i 0] else .tup [.agg [i 0,i 0],i (askedP b true)]
theorem k28 (n:Nat) (b:Book) (k:Int):callK Try.prog kn (execA Try.prog ann kn (n+3200)) 28 [.agg (cellsT b),i k] = some (moneyV b k):=by
 rw [callK_of rfl,call0_eq Try.func28 b28 rfl (by simp [cellsT,encL,encC])]
 have q68:=fun n=>k68 n b (inB k 0 b.lines.length)
 unfold moneyV
 by_cases he:askedP b (inB k 0 b.lines.length) = 0
 ·obtain ⟨h0,h1,h2⟩:=asked0 he
  obtain ⟨k,rfl⟩:∃ j:Nat,k = j:=⟨k.toNat,by simp [inB] at h1; omega⟩
  have hk:k≤b.lines.length:=by simp [inB] at h1; omega
  have q1:=fun n=>k74 n b (fair_of h0) k hk 75 Scene.money (fun n s hs=>k75 n s hs)
  rw [if_pos he]
  rw [he] at q68
  unfold boundsP
  simp only [cellsT,Int.toNat_natCast] at q68 q1 ⊢
  generalize runT _ none (truthsP b) = R at q1 ⊢
  simp only [c28,argFr]
  simp [encL,encC,q68,q1]
  done
 ·have e:decide (askedP b (inB k 0 b.lines.length) = 0) = false:=by simpa using he
  rw [if_neg he]
  simp only [cellsT] at q68 ⊢
  generalize askedP b (inB k 0 b.lines.length) = A at q68 e ⊢
  simp [c28,argFr,encL,encC,q68,e]
  done
theorem k29 (n:Nat) (b:Book):callK Try.prog kn (execA Try.prog ann kn (n+3200)) 29 [.agg (cellsT b)] = some (mixedV b):=by
 rw [callK_of rfl,call0_eq Try.func29 b29 rfl (by simp [cellsT,encL,encC])]
 have q68:=fun n=>k68 n b true
 unfold mixedV
 by_cases he:askedP b true = 0
 ·obtain ⟨h0,h1,h2⟩:=asked0 he
  have q1:=fun n=>k74 n b (fair_of h0) b.lines.length (Nat.le_refl _) 76 Scene.mixed (fun n s hs=>k76 n s hs)
  rw [if_pos he]
  rw [he] at q68
  unfold boundsP
  simp only [cellsT] at q68 q1 ⊢
  generalize runT _ none (truthsP b) = R at q1 ⊢
  simp [c29,argFr,encL,encC,q68,q1]
  done
 ·have e:decide (askedP b true = 0) = false:=by simpa using he
  rw [if_neg he]
  simp only [cellsT] at q68 ⊢
  generalize askedP b true = A at q68 e ⊢
  simp [c29,argFr,encL,encC,q68,e]
  done
end Go.Proofs.Try.Op
