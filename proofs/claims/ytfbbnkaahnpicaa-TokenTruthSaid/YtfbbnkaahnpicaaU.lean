/- The map of lines that 'Was' keeps: a look, a store. No condition. -/
import Derived.Test.YtfbbnkaahnpicaaZ2
import Derived.Test.YtfbbnkaahnpicaaFz
import Derived.Test.YtfbbnkaahnpicaaT1
import Derived.Test.YtfbbnkaahnpicaaW
import Derived.Test.YtfbbnkaahnpicaaZ1
import Derived.Test.YtfbbnkaahnpicaaLa
import Derived.Test.YtfbbnkaahnpicaaSx
import Derived.Test.YtfbbnkaahnpicaaT2
import Derived.Test.YtfbbnkaahnpicaaY1
open Go Go.Pg Go.Proofs
namespace Go.Proofs.Try.Op
set_option maxRecDepth 100000
set_option linter.unusedSimpArgs false
instance decLine:DecidableEq Line:=fun a b =>
 if h:a.k = b.k∧a.c = b.c∧a.t = b.t then isTrue (by obtain ⟨a1,a2,a3⟩:=a; obtain ⟨b1,b2,b3⟩:=b; simp only at h; obtain ⟨rfl,rfl,rfl⟩:=h; rfl)
 else isFalse (by intro e; subst e; exact h ⟨rfl,rfl,rfl⟩)
def encF (l:Line):V × V:=(.agg (encL l),.bool true)
def addL (x:Line) (L:List Line):List Line:=if x ∈ L then L else L ++ [x]
structure okF (L:List Line):Prop where
 ok:∀ x ∈ L,okL x
 nd:L.Nodup
theorem addL_mem {x y:Line} {L:List Line}:y ∈ addL x L ↔ y = x∨y ∈ L:=by
 unfold addL
 split
 ·rename_i h
  exact ⟨.inr,fun hh=>hh.elim (fun e=>e ▸ h) id⟩
 ·simp only [List.mem_append,List.mem_singleton,or_comm]
theorem okF_add {x:Line} {L:List Line} (h:okF L) (hx:okL x):okF (addL x L) where
 ok:=fun y hy=>(addL_mem.1 hy).elim (fun e=>e ▸ hx) (h.ok y)
 nd:=by
  unfold addL
  split
  ·exact h.nd
  ·rename_i hn
   rw [List.nodup_append]
   exact ⟨h.nd,by simp,fun a ha b hb e=>hn (by simp at hb; rw [← hb,← e]; exact ha)⟩
theorem kl96 (d:Nat) {a b c:Int} (ha:(Lit.int .i64 a).wf = true) (hb:(Lit.int .i64 b).wf = true) (hc:(Lit.int .i64 c).wf = true) :
  Try.prog.keyLits (d + 2) 96 [.int .i64 a,.int .i64 b,.int .i64 c] = some [.int .i64 a,.int .i64 b,.int .i64 c]:=by
 have c3:Try.prog.cellsOf 3 = 1:=cells_3
 unfold Program.keyLits
 rw [Try.underlying96]
 simp only
 rw [if_pos (by rw [cells_96]; exact ⟨rfl,by decide +kernel⟩)]
 simp [List.mapM_cons,c3,kl3 d ha,kl3 d hb,kl3 d hc]
theorem keyT96a:Try.prog.keyType 96 = true:=by kernel_rfl
theorem size2:Try.prog.types.size + 1 = (Try.prog.types.size - 1) + 2:=by
 have:2≤Try.prog.types.size:=of_decide_eq_true (by kernel_rfl)
 omega
theorem keyVL (x:Line) (h:okL x):keyV Try.prog 96 (.agg (encL x)) = some (encL x):=by
 obtain ⟨k,c,t⟩:=x
 obtain ⟨hk,hc,ht⟩:=h
 have q:=kl96 (Try.prog.types.size - 1) (wfI hk) (wfI hc) (wfI ht)
 rw [← size2] at q
 have hf:(Value.agg #[.int .i64 k,.int .i64 c,.int .i64 t]).formed Try.prog 96 = true:=by
  unfold Value.formed
  rw [Try.underlying96]
  simp [cells_96]
 have hko:(keyOf Try.prog 96 (.agg #[.int .i64 k,.int .i64 c,.int .i64 t])).isSome = true:=by
  unfold keyOf
  rw [Try.underlying96]
  simp only
  rw [if_pos (by rw [keyT96a,hf]; rfl),Option.isSome_map]
  simp only at q
  exact Option.isSome_iff_exists.2 ⟨_,q⟩
 have hp:plainC (encL ⟨k,c,t⟩) = some [.int .i64 k,.int .i64 c,.int .i64 t]:=rfl
 unfold keyV
 simp only [hp]
 rw [if_pos hko]
theorem keyT96:keyT Try.prog 96 = true:=by kernel_rfl
theorem mapT122:mapT Try.prog 122 = some (96,4):=by kernel_rfl
theorem eqC_L (x y:Line):eqC (encL x) (encL y) = some (decide (x = y)):=by
 have:=eqC_ints [x.k,x.c,x.t] [y.k,y.c,y.t] rfl
 show eqC (i x.k :: i x.c :: [i x.t]) (i y.k :: i y.c :: [i y.t]) = _
 simp only [List.map_cons,List.map_nil] at this
 rw [this]
 congr 1
 obtain ⟨k,c,t⟩:=x
 obtain ⟨k',c',t'⟩:=y
 rw [Bool.eq_iff_iff]
 simp
def posL (x:Line):List Line→Nat→List Nat
 | [],_=>[]
 | p :: L,j=>if p = x then j :: posL x L (j + 1) else posL x L (j + 1)
theorem findV_L (x:Line):∀ (L:List Line) (j:Nat),(∀ p ∈ L,okL p)→findV Try.prog 96 (encL x) (L.map encF) j = some (posL x L j)
 | [],_,_=>rfl
 | p :: L,j,h=>by
  have ih:=findV_L x L (j + 1) (fun q hq=>h q (by simp [hq]))
  simp only [List.map_cons,encF,findV,keyVL p (h p (by simp)),eqC_L p x]
  have ih':findV Try.prog 96 (encL x) (List.map encF L) (j + 1) = some (posL x L (j + 1)):=ih
  rw [ih']
  simp [posL]
theorem posL_none (x:Line):∀ (L:List Line) (j:Nat),x ∉ L→posL x L j = []
 | [],j,_=>rfl
 | p :: L,j,h=>by
  simp only [List.mem_cons,not_or] at h
  have hp:¬ p = x:=fun hh=>h.1 hh.symm
  simp [posL,hp,posL_none x L (j + 1) h.2]
theorem posL_some (x:Line):∀ (L:List Line) (j:Nat),x ∈ L→L.Nodup→∃ k,posL x L j = [j + k]∧L[k]? = some x
 | p :: L,j,h,hn=>by
  simp only [List.nodup_cons] at hn
  by_cases hp:p = x
  ·exact ⟨0,by simp [posL,hp,posL_none x L (j + 1) (by rw [← hp]; exact hn.1)],by simp [hp]⟩
  ·obtain ⟨k,i1,i2⟩:=posL_some x L (j + 1) ((List.mem_cons.1 h).resolve_left fun hh=>hp hh.symm) hn.2
   exact ⟨k + 1,by simp [posL,hp,i1]; omega,by simpa using i2⟩
theorem lookL_run {s:St} {l q g:Nat} {L:List Line} {x:Line} (hs:s.get l q = some (g,.map (L.map encF))) (hL:okF L) (hx:okL x) :
  evLookup Try.prog s 122 (.mp l q g) (.agg (encL x)) false = some (.bool (decide (x ∈ L))):=by
 unfold evLookup
 simp only [mapT122,hs,keyT96,keyVL x hx,findV_L x L 0 hL.ok,and_self,if_true]
 by_cases h:x ∈ L
 ·obtain ⟨k,i1,i2⟩:=posL_some x L 0 h hL.nd
  simp [i1,i2,encF,h]
 ·simp [posL_none x L 0 h,wholeZ4,h]
theorem set_same {α:Type} {l:List α} {k:Nat} {x:α} (h:l[k]? = some x):l.set k x = l:=by
 apply List.ext_getElem?
 intro j
 rw [List.getElem?_set]
 split
 ·rename_i e
  subst e
  split
  ·exact h.symm
  ·rename_i hn
   rw [List.getElem?_eq_none (by omega)] at h
   cases h
 ·rfl
theorem updL_run {s:St} {l q g:Nat} {L:List Line} {x:Line} (hs:s.get l q = some (g,.map (L.map encF))) (hL:okF L) (hx:okL x) :
  evUpd Try.prog s 122 (.mp l q g) (.agg (encL x)) (.bool true) = some (l,q,g,(addL x L).map encF):=by
 unfold evUpd
 simp only [mapT122,hs,keyT96,keyVL x hx,findV_L x L 0 hL.ok,and_self,if_true]
 by_cases h:x ∈ L
 ·obtain ⟨k,i1,i2⟩:=posL_some x L 0 h hL.nd
  have e:(L.map encF).set k (V.agg (encL x),V.bool true) = L.map encF:=set_same (by simp [i2,encF])
  simp [i1,addL,h,e]
 ·simp [posL_none x L 0 h,addL,h,encF]
@[simp] theorem shut_mapF (s:St) (L:List Line):shutRes s (.map (L.map encF)) = .map (L.map encF):=by
 have:closeResX s (.map (L.map encF)) = some (.map (L.map encF)):=by
  unfold closeResX
  simp only
  rw [mapOO_same]
  intro x hx
  simp only [List.mem_map] at hx
  obtain ⟨p,_,rfl⟩:=hx
  rfl
 unfold shutRes
 rw [this]
noncomputable def fr33 (b:Book):Fr:=[(22,true,.fn 102 [] [.ref (cellsT b)]),(21,true,.agg (cellsT b)),(2,true,.ptr 0 2 0 0),(3,true,.ptr 0 3 1 0),(7,true,.ptr 0 7 3 0)]
noncomputable def body33:Code:=.block 1 r33_7
@[simp] theorem u33 (n:Nat) (st:XS):execA Try.prog ann kn n 39 body33 st = execA Try.prog ann kn n 39 (.block 1 r33_7) st:=rfl
structure Lv33 (b:Book) (k:Nat) (a:List Line) (L:Level):Prop where
 p2:L.get 2 = some (0,.box (cellsT b))
 p3:L.get 3 = some (1,.box [i k])
 p7:L.get 7 = some (3,.box [.mp 0 20 2])
 p20:L.get 20 = some (2,.map (a.map encF))
 p22:L.get 22 = none
 p36:L.get 36 = none
 pr:L.get rkey = some (4,.loop (fr33 b) [23,24] r33_6 body33 39 .ready)
 st:∀ t:St,1≤t.up.length→shutLv t L = L
 ok:okF a
def stepW (k:Nat) (a:List Line) (ls:List Line) (_:List Scene):List Line:=addL (ls.getD k line0) a
theorem reading_ok {b:Book} (hb:Fair b) {j:Nat} (hj:j < b.lines.length) {x:Line} (hx:x ∈ readingsP b.chairs b.lines[j]):okL x:=by
 have h4:=hb.ch4
 obtain ⟨h1,h2,h3⟩:=readingsP_ok hb.ch4 (List.all_eq_true.1 hb.lok _ (List.getElem_mem hj)) hx
 exact ⟨⟨by omega,by omega⟩,⟨by omega,by omega⟩,⟨by omega,by omega⟩⟩
theorem step33 {b:Book} (hb:Fair b) {k:Nat} (hk:k < b.lines.length):StepOK b (Lv33 b k) (stepW k) 4 600:=by
 intro a L L1 rest loc c fr ls ss g9 g14 hL hc hp p9 p14 hst
 obtain ⟨p2,p3,p7,p20,p22,p36,pr,pst,pok⟩:=hL
 have hll:=hp.ll
 have hkl:k < ls.length:=by omega
 have hx:=hp.rd k hkl hk
 have hok:=reading_ok hb hk hx
 have hgd:ls.getD k line0 = ls[k]:=by simp [List.getD_eq_getElem?_getD,hkl]
 have hgk:(ls.map encL)[k]? = some (encL ls[k]):=by simp [hkl]
 have hu:=fun s h=>updL_run (s:=s) (l:=0) (q:=20) (g:=2) (L:=a) (x:=ls[k]) h pok hok
 have hki:(k:Int) < (b.lines.length:Int):=by omega
 have hst':=fun t h=>hst t h
 simp only [List.map_cons,List.map_append,List.map_nil,List.cons.injEq] at hst'
 have hun:∀ A:Level,unsnoc (A :: L1 :: (rest ++ [loc])) = some (A :: L1 :: rest,loc):=fun A=>by
  rw [← List.cons_append,← List.cons_append,unsnoc_snoc]
 have hsr:∀ t:St,(L1 :: (rest ++ [loc])).length + 1≤t.up.length→(rest.map (shutLv t) = rest∧shutLv t loc = loc):=fun t h=>by
  have:=(hst' t h).2
  exact ⟨List.append_inj_left' this rfl,by simpa using List.append_inj_right' this rfl⟩
 have h1s:∀ t:St,(L1 :: (rest ++ [loc])).length + 1≤t.up.length→shutLv t L1 = L1:=fun t h=>(hst' t h).1
 have e2:2 < c:=by omega
 have hok':=okF_add (x:=ls[k]) pok hok
 unfold stepW
 rw [hgd]
 generalize hA:addL ls[k] a = a' at hu hok' ⊢
 refine ⟨(rkey,4,.loop (fr33 b) [23,24] r33_6 body33 39 .ready) :: (20,2,.map (a'.map encF)) :: (rkey,4,.loop (fr33 b) [23,24] r33_6 body33 39 .busy) :: L,c,?_,by omega,fun n=>?_⟩
 ·exact ⟨by simpa [rkey] using p2,by simpa [rkey] using p3,by simpa [rkey] using p7,by simp [rkey],by simpa [rkey] using p22,by simpa [rkey] using p36,by simp,fun t ht=>by simp [pst t ht],hok'⟩
 ·rw [yld_run (by simpa using pr) rfl (by omega)]
  simp only [putPs,Fr.put,x33_6,fr33]
  simp
  rw [roundB_normal (fr0:=fr33 b) (ps:=[23,24]) (asg:=r33_6) (body':=body33) (N:=39) (by simpa using pr) (by omega)]
  generalize hB:Res.loop (fr33 b) [23,24] r33_6 body33 39 LS.busy = B
  simp only [encL] at hgk hu
  simp [p2,p3,p7,p20,p9,hgk,hu,hki,hkl,hll,Level.put,rkey,e2,up1_some]
  subst hB
  rw [roundE_normal (fr0:=fr33 b) (ps:=[23,24]) (asg:=r33_6) (body:=body33) (N:=39) (by simp) (hun _) (by simp) (by omega)]
  simp [pst,h1s,hsr,Level.put,fr33]
  done
end Go.Proofs.Try.Op
/- Was: what is deleted of the readings. No condition. -/
open Go Go.Pg Go.Proofs
namespace Go.Pg
variable {P:Program} {E:XE} {c:Nat} {fr:Fr} {s:St} {r:Operand→Option V}
@[simp] theorem evP_sliceL (T:TypeId) (x l:Operand):evP P (mkO (.slice T x (some l) none none)) s r = o2 (fun a b=>evSlice P s T a (some b) none none) (r x) (r l):=by
 show ((r x).bind fun a=>((r l).map some).bind fun l=>(some none).bind fun h=>(some none).bind fun m=>evSlice P s T a l h m) = _
 cases r x <;> cases r l <;> rfl
theorem slice_vtl {T e U:TypeId} {es:List (List V)} {l k g n i:Nat} (hT:elemT P T = some (none,e)) (hg:s.get l k = some (g,.vec U es)) (ha:es.all (fun x=>x.length == P.cellsOf e) = true) (hn:es ≠ []) (hi:i≤n) (hc:0 < P.cellsOf e) :
  evSlice P s T (.vec l k g n) (some (.int .i64 (i:Int))) none none = some (.vtl l k g i (n - i)):=by
 unfold evSlice
 simp only [hT,hg]
 rw [if_pos ⟨trivial,ha,hn,by omega,by omega,hc⟩]
 simp
theorem slice_vec {T e:TypeId} {l k g n h:Nat} (hT:elemT P T = some (none,e)) (hh:h≤n) (hc:0 < P.cellsOf e):evSlice P s T (.vec l k g n) none (some (.int .i64 (h:Int))) none = some (.vec l k g h):=by
 unfold evSlice
 simp only [hT]
 rw [if_pos ⟨by omega,by omega,hc⟩]
 simp
theorem clear_vtl {T e:TypeId} {x:Operand} {es:List (List V)} {z:List V} {l q γ i n:Nat} (hT:elemT P T = some (none,e)) (hx:rdX fr x = some (.vtl l q γ i n)) (hg:s.get l q = some (γ,.vec e es)) (hz:zeroC P e = some z) (hn:i + n≤es.length) (ha:es.all (fun y=>y.length == z.length) = true) (hc:γ < c) :
  stepK P E none (.clr [x] [T]) ⟨c,fr,s⟩ = some ⟨c,fr,s.put l q γ (.vec e (es.take i ++ List.replicate n z ++ es.drop (i + n)))⟩:=by
 show xClear P none [x] [T] ⟨c,fr,s⟩ = _
 have hb:(Nat.beq γ γ && Nat.beq e e && Nat.ble (i + n) es.length && es.all (fun y=>y.length == z.length) && Nat.blt γ c) = true:=by
  rw [ha]; simp [Nat.blt_eq,hn,hc,Nat.beq_eq]
 unfold xClear
 simp only [hT,hx,hg,hz,hb]
end Go.Pg
namespace Go.Proofs.Try.Op
set_option maxRecDepth 100000
set_option linter.unusedSimpArgs false
structure Lv80 (γ:Nat) (a R:List Line) (L:Level):Prop where
 p7:L.get 7 = some (3,.box [.mp 0 20 2])
 p20:L.get 20 = some (2,.map (a.map encF))
 p36:L.get 36 = some (γ,.vec 96 (R.map encL))
 st:∀ t:St,1≤t.up.length→shutLv t L = L
theorem stay_split {rs:List Level} {loc:Level} {t:St} (h:(rs ++ [loc]).map (shutLv t) = rs ++ [loc]):rs.map (shutLv t) = rs∧shutLv t loc = loc:=by
 simp only [List.map_append,List.map_cons,List.map_nil] at h
 exact ⟨List.append_inj_left' h rfl,by simpa using List.append_inj_right' h rfl⟩
theorem k82 (n:Nat) {γ:Nat} {a R:List Line} {L:Level} (hL:Lv80 γ a R L) (ha:okF a) (rs:List Level) (loc:Level) (hst:∀ t:St,rs.length + 2≤t.up.length→(rs ++ [loc]).map (shutLv t) = rs ++ [loc]) (x:Line) (hx:okL x) (c dd:Nat) (fr:Fr) :
  ca2 (envA Try.prog ann kn (n + 100)) (some dd) ⟨c,fr,⟨L :: rs,loc⟩⟩ 82 [.agg (encL x),.ptr 0 7 3 0] = some ⟨c + 1,(dd,true,.bool (!decide (x ∈ a))) :: fr,⟨L :: rs,loc⟩⟩:=by
 have hu:=fun s h=>lookL_run (s:=s) (l:=0) (q:=20) (g:=2) (L:=a) (x:=x) h ha hx
 have p7:=hL.p7
 have p20:=hL.p20
 rw [cf_open Try.func82 b82 rfl (by simp)]
 have h1:=fun t h=>hst t h
 have h2:=hL.st
 simp only [encL] at hu ⊢
 simp [c82,argFr,p7,p20,hu]
 have q:=fun t h=>stay_split (hst t h)
 exact ⟨⟨h2 _ (by simp),(q _ (by simp)).1⟩,(q _ (by simp)).2⟩
def idxGo (a:List Line):Nat→List Line→Option Nat
 | _,[]=>none
 | k,x :: r=>if x ∈ a then idxGo a (k + 1) r else some k
theorem l106v {γ:Nat} {a xs:List Line} {L:Level} (hL:Lv80 γ a xs L) (ha:okF a) (hxs:∀ x ∈ xs,okL x) (rs:List Level) (hst:∀ t:St,rs.length + 1≤t.up.length→rs.map (shutLv t) = rs) (hl:xs.length≤40) :
  ∀ (d k c:Nat),k + d = xs.length→∃ c',c≤c'∧∀ n m,d < m →
  loopA (execA Try.prog ann kn (n+200) 19) lb106_2 (some ([0,1,3,7,8],[3])) m ⟨c,[(0,true,.vec 0 36 γ xs.length),(1,true,.fn 82 [] [.ptr 0 7 3 0]),(7,true,i xs.length),(8,true,i k)],⟨L :: rs,[]⟩⟩ =
   match idxGo a k (xs.drop k) with
   | some j=>some (.ret,⟨c',[(4,true,i j),(17,true,i j),(5,true,i j)],⟨L :: rs,[]⟩⟩)
   | none=>some (.exit 0,⟨c',[(9,true,.bool false),(0,true,.vec 0 36 γ xs.length),(1,true,.fn 82 [] [.ptr 0 7 3 0]),(7,true,i xs.length),(8,true,i xs.length)],⟨L :: rs,[]⟩⟩)
 | 0,k,c,hd=>by
  have hk:k = xs.length:=by omega
  subst hk
  refine ⟨c,Nat.le_refl _,fun n m hm=>?_⟩
  obtain ⟨m,rfl⟩:∃ m',m = m' + 1:=⟨m - 1,by omega⟩
  rw [List.drop_length]
  simp [loopA_succ,idxGo]
  done
 | d + 1,k,c,hd=>by
  have hk:k < xs.length:=by omega
  have hw:IntKind.i64.wrap ((k:Int) + 1) = (k:Int) + 1:=wrap_i64 (by omega) (by omega)
  have p36:=hL.p36
  have hgk:(xs.map encL)[k]? = some (encL xs[k]):=by simp [hk]
  obtain ⟨c',i0,ih⟩:=l106v hL ha hxs rs hst hl d (k + 1) (c + 1) (by omega)
  have q:=fun n c dd fr=>k82 n hL ha rs [] (fun t h=>by rw [List.map_append,hst t (by omega)]; rfl) xs[k] (hxs _ (List.getElem_mem hk)) c dd fr
  rw [List.drop_eq_getElem_cons hk]
  simp only [idxGo]
  simp only [encL] at hgk q
  by_cases he:xs[k] ∈ a
  ·rw [if_pos he]
   simp only [he,decide_true,Bool.not_true] at q
   refine ⟨c',by omega,fun n m hm=>?_⟩
   obtain ⟨m,rfl⟩:∃ m',m = m' + 1:=⟨m - 1,by omega⟩
   have ih:=ih n m (by omega)
   rw [loopA_succ]
   simp at ih
   simp [hk,hw,p36,hgk,encL,q,ih]
   done
  ·rw [if_neg he]
   simp only [he,decide_false,Bool.not_false] at q
   refine ⟨c + 1,by omega,fun n m hm=>?_⟩
   obtain ⟨m,rfl⟩:∃ m',m = m' + 1:=⟨m - 1,by omega⟩
   rw [loopA_succ]
   simp [hk,hw,p36,hgk,encL,q]
   done
def idxI:Option Nat→Int
 | some j=>j
 | none=>-1
theorem k106v (n:Nat) {γ:Nat} {a xs:List Line} {L:Level} (hL:Lv80 γ a xs L) (ha:okF a) (hxs:∀ x ∈ xs,okL x) (hl:xs.length≤40) (c dd:Nat) (fr:Fr) :
  ∃ c',c≤c'∧ca2 (envA Try.prog ann kn (n + 300)) (some dd) ⟨c,fr,⟨[L],[]⟩⟩ 106 [.vec 0 36 γ xs.length,.fn 82 [] [.ptr 0 7 3 0]] = some ⟨c',(dd,true,i (idxI (idxGo a 0 xs))) :: fr,⟨[L],[]⟩⟩:=by
 obtain ⟨c',i0,h⟩:=l106v hL ha hxs [[]] (fun t _=>by simp) hl xs.length 0 c (by omega)
 have h:=h (n + 95) (n + 295) (by omega)
 have hs:=hL.st
 refine ⟨c',i0,?_⟩
 rw [cf_open Try.func106 b106 rfl (by simp)]
 rw [List.drop_zero] at h
 generalize idxGo a 0 xs = q at h
 cases q with
 | some j=>simp at h; simp [c106,argFr,h,hs,idxI]
 | none=>simp at h; simp [c106,argFr,h,hs,idxI]
theorem Lv80.set {γ:Nat} {a R:List Line} {L:Level} (h:Lv80 γ a R L) (j:Nat) (x:Line):Lv80 γ a (R.set j x) ((36,γ,.vec 96 ((R.map encL).set j (encL x))) :: L) where
 p7:=by simpa using h.p7
 p20:=by simpa using h.p20
 p36:=by simp [List.map_set]
 st:=by
  intro t ht
  rw [shutLv_cons,h.st t ht,← encL_set,shut_vecL]
theorem l80 {γ:Nat} {a xs:List Line} (ha:okF a) (hxs:∀ x ∈ xs,okL x) (hl:xs.length≤40):∀ (d j:Nat) (R:List Line) (L:Level) (c:Nat),j + d = xs.length→R.length = xs.length→R.take ((xs.take j).filter (· ∈ a)).length = (xs.take j).filter (· ∈ a)→R.drop j = xs.drop j→Lv80 γ a R L→γ < c →
  ∃ L' R' c',c≤c'∧Lv80 γ a R' L'∧R'.length = xs.length∧R'.take (xs.filter (· ∈ a)).length = xs.filter (· ∈ a)∧∀ n m,d < m →
  loopA (execA Try.prog ann kn (n+300) 42) lb80_5 (some ([0,1,5,6],[])) m ⟨c,[(0,true,.vec 0 36 γ xs.length),(1,true,.fn 82 [] [.ptr 0 7 3 0]),(5,true,i ((xs.take j).filter (· ∈ a)).length),(6,true,i j)],⟨[L],[]⟩⟩ =
   some (.exit 0,⟨c',[(19,true,.bool false),(18,true,i xs.length),(17,true,.vec 0 36 γ xs.length),(16,true,i xs.length),(0,true,.vec 0 36 γ xs.length),(1,true,.fn 82 [] [.ptr 0 7 3 0]),(5,true,i (xs.filter (· ∈ a)).length),(6,true,i xs.length)],⟨[L'],[]⟩⟩)
 | 0,j,R,L,c,hd,hR,ht,hdr,hL,hc=>by
  have hj:j = xs.length:=by omega
  subst hj
  rw [List.take_length] at ht ⊢
  refine ⟨L,R,c,Nat.le_refl _,hL,hR,ht,fun n m hm=>?_⟩
  obtain ⟨m,rfl⟩:∃ m',m = m' + 1:=⟨m - 1,by omega⟩
  generalize (xs.filter (· ∈ a)).length = F
  simp [loopA_succ]
  done
 | d + 1,j,R,L,c,hd,hR,ht,hdr,hL,hc=>by
  have hj:j < xs.length:=by omega
  have hjR:j < R.length:=by omega
  have hw:IntKind.i64.wrap ((j:Int) + 1) = (j:Int) + 1:=wrap_i64 (by omega) (by omega)
  have hRj:R[j] = xs[j]:=by
   rw [List.drop_eq_getElem_cons hj,List.drop_eq_getElem_cons hjR] at hdr
   exact (List.cons.inj hdr).1
  have hdr':R.drop (j + 1) = xs.drop (j + 1):=by
   rw [List.drop_eq_getElem_cons hj,List.drop_eq_getElem_cons hjR] at hdr
   exact (List.cons.inj hdr).2
  have p36:=hL.p36
  have hgk:(R.map encL)[j]? = some (encL xs[j]):=by simp [hjR,hRj]
  have hxj:=hxs _ (List.getElem_mem hj)
  have hf:(xs.take (j + 1)).filter (· ∈ a) = (xs.take j).filter (· ∈ a) ++ (if xs[j] ∈ a then [xs[j]] else []):=by
   rw [List.take_succ_eq_append_getElem hj,List.filter_append]
   congr 1
   by_cases he:xs[j] ∈ a <;> simp [he]
  have hfl:((xs.take j).filter (· ∈ a)).length≤j:=by
   have:=List.length_filter_le (fun x=>decide (x ∈ a)) (xs.take j)
   simp at this
   omega
  have q:=fun n loc (hloc:∀ t:St,2≤t.up.length→shutLv t loc = loc) c dd fr=>k82 n hL ha [] loc (fun t h=>by simp [hloc t (by simpa using h)]) xs[j] hxj c dd fr
  by_cases he:xs[j] ∈ a
  ·rw [if_pos he] at hf
   simp only [he,decide_true,Bool.not_true] at q
   have hlen:((xs.take (j + 1)).filter (· ∈ a)).length = ((xs.take j).filter (· ∈ a)).length + 1:=by rw [hf]; simp
   have hL':=hL.set ((xs.take j).filter (· ∈ a)).length xs[j]
   obtain ⟨L',R',c',i0,i1,i2,i3,ih⟩:=l80 (γ:=γ) ha hxs hl d (j + 1) (R.set ((xs.take j).filter (· ∈ a)).length xs[j]) _ (c + 1 + 1) (by omega) (by simp [hR]) (by rw [hlen,hf]; exact take_set ht (by omega)) (by rw [List.drop_set_of_lt (by omega)]; exact hdr') hL' (by omega)
   refine ⟨L',R',c',by omega,i1,i2,i3,fun n m hm=>?_⟩
   obtain ⟨m,rfl⟩:∃ m',m = m' + 1:=⟨m - 1,by omega⟩
   have ih:=ih n m (by omega)
   rw [hlen] at ih
   rw [loopA_succ]
   generalize hF:((xs.take j).filter (· ∈ a)).length = F at *
   have hw2:IntKind.i64.wrap ((F:Int) + 1) = (F:Int) + 1:=wrap_i64 (by omega) (by omega)
   have hFR:F < R.length:=by omega
   have hc2:γ < c + 1 + 1:=by omega
   have hFx:F < xs.length:=by omega
   simp only [encL] at hgk q
   simp [encL] at ih
   simp [hj,hw,hw2,p36,hgk,encL,hRj,q,hFR,hFx,hR,hc,hc2,Level.put,ih]
   done
  ·rw [if_neg he,List.append_nil] at hf
   simp only [he,decide_false,Bool.not_false] at q
   obtain ⟨L',R',c',i0,i1,i2,i3,ih⟩:=l80 (γ:=γ) ha hxs hl d (j + 1) R L (c + 1 + 1) (by omega) hR (by rw [hf]; exact ht) hdr' hL (by omega)
   refine ⟨L',R',c',by omega,i1,i2,i3,fun n m hm=>?_⟩
   obtain ⟨m,rfl⟩:∃ m',m = m' + 1:=⟨m - 1,by omega⟩
   have ih:=ih n m (by omega)
   rw [hf] at ih
   rw [loopA_succ]
   generalize hF:((xs.take j).filter (· ∈ a)).length = F at *
   simp only [encL] at hgk q
   simp at ih
   simp [hj,hw,p36,hgk,encL,hR,hRj,q,ih]
   done
theorem idx_none {a:List Line}:∀ {l:List Line} {k:Nat},idxGo a k l = none→∀ x ∈ l,x ∈ a
 | [],_,_,x,hx=>by simp at hx
 | y :: r,k,h,x,hx=>by
  unfold idxGo at h
  split at h
  ·rename_i hy
   rcases List.mem_cons.1 hx with rfl | hx
   ·exact hy
   ·exact idx_none h x hx
  ·cases h
theorem idx_some {a:List Line}:∀ {l:List Line} {k j:Nat},idxGo a k l = some j→∃ m,j = k + m∧m < l.length∧(l.take (m + 1)).filter (· ∈ a) = l.take m
 | [],_,_,h=>by cases h
 | y :: r,k,j,h=>by
  unfold idxGo at h
  split at h
  ·rename_i hy
   obtain ⟨m,e,hm,hf⟩:=idx_some h
   exact ⟨m + 1,by omega,by simpa using hm,by rw [List.take_succ_cons,List.filter_cons_of_pos (p:=fun x=>decide (x ∈ a)) (decide_eq_true hy),hf,List.take_succ_cons]⟩
  ·rename_i hy
   cases h
   exact ⟨0,rfl,by simp,by simp [hy]⟩
theorem k80 (n:Nat) {γ:Nat} {a xs:List Line} {L:Level} (hL:Lv80 γ a xs L) (ha:okF a) (hxs:∀ x ∈ xs,okL x) (hl:xs.length≤40) (c dd:Nat) (fr:Fr) (hc:γ < c) :
  ∃ L' es c',c≤c'∧L'.get 36 = some (γ,.vec 96 es)∧es.take (xs.filter (· ∈ a)).length = (xs.filter (· ∈ a)).map encL∧(xs.filter (· ∈ a)).length≤es.length ∧
  ca2 (envA Try.prog ann kn (n + 700)) (some dd) ⟨c,fr,⟨[],L⟩⟩ 80 [.vec 0 36 γ xs.length,.fn 82 [] [.ptr 0 7 3 0]] = some ⟨c',(dd,true,.vec 0 36 γ (xs.filter (· ∈ a)).length) :: fr,⟨[],L'⟩⟩:=by
 obtain ⟨c1,i1,q1⟩:∃ c1,c≤c1∧_:=k106v (n + 397) hL ha hxs hl c 10 [(9,true,.fn 82 [] [.ptr 0 7 3 0]),(8,true,.vec 0 36 γ xs.length),(0,true,.vec 0 36 γ xs.length),(1,true,.fn 82 [] [.ptr 0 7 3 0])]
 have hs:=hL.st
 cases hq:idxGo a 0 xs with
 | none =>
  rw [hq] at q1
  have hF:xs.filter (· ∈ a) = xs:=List.filter_eq_self.2 fun x hx=>by simpa using idx_none hq x hx
  rw [hF]
  refine ⟨L,xs.map encL,c1,i1,hL.p36,List.take_of_length_le (by rw [List.length_map]; exact Nat.le_refl _),by rw [List.length_map]; exact Nat.le_refl _,?_⟩
  rw [cf_open Try.func80 b80 rfl (by simp)]
  simp only [idxI] at q1
  simp [c80,argFr,q1,hs]
  done
 | some j =>
  rw [hq] at q1
  obtain ⟨m,e,hm,hf⟩:=idx_some hq
  have e:j = m:=by omega
  subst e
  have hfl:((xs.take (j + 1)).filter (· ∈ a)).length = j:=by rw [hf]; simp; omega
  obtain ⟨L',R',c',i2,h1,h2,h3,h4⟩:=l80 (γ:=γ) ha hxs hl (xs.length - (j + 1)) (j + 1) xs L c1 (by omega) rfl (by rw [hfl,hf]) rfl hL (by omega)
  have h4:=h4 (n + 393) (n + 693) (by omega)
  rw [hfl] at h4
  have hFl:(xs.filter (· ∈ a)).length≤xs.length:=List.length_filter_le _ _
  have hs':=h1.st
  have p36:=h1.p36
  have hw:IntKind.i64.wrap ((j:Int) + 1) = (j:Int) + 1:=wrap_i64 (by omega) (by omega)
  have hes:(R'.map encL).take (xs.filter (· ∈ a)).length = (xs.filter (· ∈ a)).map encL:=by rw [← List.map_take,h3]
  generalize hFF:(xs.filter (· ∈ a)).length = F at *
  have hFR:F≤(R'.map encL).length:=by simp; omega
  refine ⟨(36,γ,.vec 96 ((R'.map encL).take F ++ List.replicate (xs.length - F) [V.int .i64 0,V.int .i64 0,V.int .i64 0] ++ (R'.map encL).drop xs.length)) :: L',((R'.map encL).take F ++ List.replicate (xs.length - F) [V.int .i64 0,V.int .i64 0,V.int .i64 0] ++ (R'.map encL).drop xs.length),c',by omega,by simp,?_,?_,?_⟩
  ·rw [List.append_assoc,List.take_append_of_le_length (by simp; omega),List.take_take,Nat.min_self,hes]
  ·simp; omega
  ·rw [cf_open Try.func80 b80 rfl (by simp)]
   simp only [idxI] at q1
   simp at h4
   have hFi:(F:Int)≤(xs.length:Int):=by omega
   have hne:R'.map encL ≠ []:=by
    intro h0
    have:=congrArg List.length h0
    simp at this
    rw [this] at h2
    simp at h2
    omega
   have hal:(R'.map encL).all (fun x=>x.length == Try.prog.cellsOf 96) = true:=by simp [encL]
   have v1:=slice_vtl (P:=Try.prog) (s:=⟨[L'],[]⟩) (T:=32) (e:=96) (U:=96) (es:=R'.map encL) (l:=0) (k:=36) (g:=γ) (n:=xs.length) (i:=F) (by kernel_rfl) (by simpa using p36) hal hne hFl (by simp)
   have v2:=fun s=>slice_vec (P:=Try.prog) (s:=s) (T:=32) (e:=96) (l:=0) (k:=36) (g:=γ) (n:=xs.length) (h:=F) (by kernel_rfl) hFl (by simp)
   have v3:=fun n fr x hx=>clear_vtl (P:=Try.prog) (E:=envA Try.prog ann kn n) (c:=c') (fr:=fr) (s:=⟨[L'],[]⟩) (T:=32) (e:=96) (x:=x) (es:=R'.map encL) (z:=[V.int .i64 0,V.int .i64 0,V.int .i64 0]) (l:=0) (q:=36) (γ:=γ) (i:=F) (n:=xs.length - F) (by kernel_rfl) hx (by simpa using p36) (by simp) (by simp; omega) (by simp [encL]) (by omega)
   have hFF:F + (xs.length - F) = xs.length:=by omega
   simp only [hFF] at v3
   simp [c80,argFr,q1,hs,hw,h4,hs',p36,hFl,hFi,hFR,v1,v2,v3]
   have hz:(R'.map encL).take F ++ (List.replicate (xs.length - F) [V.int .i64 0,V.int .i64 0,V.int .i64 0] ++ (R'.map encL).drop xs.length) = (R'.take F ++ (List.replicate (xs.length - F) (⟨0,0,0⟩:Line) ++ R'.drop xs.length)).map encL:=by
    rw [List.map_append,List.map_append,List.map_take,List.map_drop,List.map_replicate]
    rfl
   rw [hz]
   simp only [Level.put]
   rw [shutLv_cons,hs' _ (by simp),shut_vecL]
   done
def foundP (b:Book) (k:Nat):List Line:=runT (stepW k) [] (truthsP b)
theorem run_mem (k:Nat):∀ (l:List (List Line × List Scene)) (a:List Line) (x:Line),x ∈ runT (stepW k) a l ↔ x ∈ a∨∃ p ∈ l,p.1.getD k line0 = x
 | [],a,x=>by simp [runT]
 | p :: l,a,x=>by
  have ih:=run_mem k l (stepW k a p.1 p.2) x
  have e:runT (stepW k) a (p :: l) = runT (stepW k) (stepW k a p.1 p.2) l:=rfl
  rw [e,ih]
  unfold stepW
  rw [addL_mem]
  simp only [List.mem_cons,exists_eq_or_imp]
  constructor
  ·rintro ((h | h) | h)
   ·exact .inr (.inl h.symm)
   ·exact .inl h
   ·exact .inr (.inr h)
  ·rintro (h | h | h)
   ·exact .inl (.inr h)
   ·exact .inl (.inl h.symm)
   ·exact .inr h
theorem found_mem {b:Book} (hf:faultB b = 0) {k:Nat} {x:Line}:x ∈ foundP b k ↔ ∃ t,fitsB b t = true∧t.getD k line0 = x:=by
 unfold foundP
 rw [run_mem]
 simp only [List.not_mem_nil,false_or]
 constructor
 ·rintro ⟨⟨t,L⟩,h,e⟩
  exact ⟨t,(fits_iff hf).2 ⟨L,h⟩,e⟩
 ·rintro ⟨t,h,e⟩
  obtain ⟨L,hL⟩:=(fits_iff hf).1 h
  exact ⟨(t,L),hL,e⟩
theorem Rd.get {C:Int}:∀ {ls xs:List Line} {k:Nat},Rd C ls xs→k < ls.length→xs.getD k line0 ∈ readingsP C (ls.getD k line0)
 | [],[],k,_,h=>by simp at h
 | [],_ :: _,_,h,_=>by cases h
 | _ :: _,[],_,h,_=>by cases h
 | l :: ls,x :: xs,0,h,_=>h.1
 | l :: ls,x :: xs,k + 1,h,hk=>by
  have:=Rd.get h.2 (k:=k) (by simpa using hk)
  simpa using this
theorem fits_reading {b:Book} (hf:faultB b = 0) {k:Nat} (hk:k < b.lines.length) {t:List Line} (h:fitsB b t = true):t.getD k line0 ∈ readingsP b.chairs (b.lines.getD k line0):=by
 obtain ⟨h1,h4,_,_,_,_,_,_,hok,_⟩:=fault0 hf
 simp only [fitsB,Bool.and_eq_true] at h
 exact ((isRead_iff h1 hok).1 h.1).get hk
def wasP (b:Book) (k:Nat):List Line:=(readingsP b.chairs (b.lines.getD k line0)).filter (· ∈ foundP b k)
def wasV (b:Book) (k:Int):V:=if askedP b (inB k 0 ((b.lines.length:Int) - 1)) = 0 then .tup [sl ((wasP b k.toNat).map encL),i 0] else .tup [.nil,i (askedP b (inB k 0 ((b.lines.length:Int) - 1)))]
theorem was_some {b:Book} {k:Nat} (hk:k < b.lines.length) (h:askedP b true = 0):wasP b k ≠ []:=by
 obtain ⟨h0,_,hp⟩:=asked0 h
 have hf:faultB b = 0:=by rw [← check_eq]; exact h0
 have hT:=(poss_iff b).1 hp
 obtain ⟨⟨t,L⟩,hm⟩:=List.exists_mem_of_ne_nil _ hT
 have hfit:=(fits_iff hf).2 ⟨L,hm⟩
 intro he
 have:t.getD k line0 ∈ wasP b k:=by
  unfold wasP
  rw [List.mem_filter]
  exact ⟨fits_reading hf hk hfit,decide_eq_true ((found_mem hf).2 ⟨t,hfit,rfl⟩)⟩
 rw [he] at this
 simp at this
theorem o81 (n:Nat) (b:Book) (l:Line) (h1:1≤b.chairs) (h4:b.chairs≤4):callO1 Try.prog (execA Try.prog ann kn (n+500)) 81 [.agg (cellsT b),.agg (encL l)] = some ⟨.vec 96 ((readingsP b.chairs l).map encL),none⟩:=by
 rw [callO1_eq Try.func81 b81 rfl (by simp [cellsT,encL,encC])]
 have hwl:=ways_len l.k 0 1 2 (by omega)
 have hk:=fun n=>k107 n l.k 0 1 2 (by omega) (by omega) (by omega)
 obtain ⟨c',γ',ih⟩:=l81a (n + 95) b l h1 h4 (ways l.k 0 1 2) (by omega) (ways l.k 0 1 2).length 0 [] 2 0 (n + 495) (by omega) (by omega) (by simp)
 have hcl:((readingsP b.chairs l).map encL).all (fun e=>e.all (closedV 9)) = true:=by simp [encL]
 simp only [Nat.add_assoc,Nat.reduceAdd,cellsT,encL] at ih ⊢
 simp at ih
 have hr:readingsP b.chairs l = rd1 b.chairs l (ways l.k 0 1 2):=rfl
 rw [← hr] at ih
 generalize readingsP b.chairs l = R at ih hcl ⊢
 simp [c81,argFr,hk,ih,retO_eq]
 exact rO_pv (R:=32) (T:=96) (by kernel_rfl) (by simp) _ _ _ _ _ _ rfl hcl
@[simp] theorem zero_122:zeroC Try.prog 122 = some [Go.Pg.V.raw (Go.Value.map none)]:=by kernel_rfl
set_option maxHeartbeats 1000000 in
theorem k33 (n:Nat) (b:Book) (k:Int) (hk64:b.lines.length≤500):callK Try.prog kn (execA Try.prog ann kn (n+3200)) 33 [.agg (cellsT b),i k] = some (wasV b k):=by
 rw [callK_of rfl,call0_eq Try.func33 b33 rfl (by simp [cellsT,encL,encC])]
 have q68:=fun n=>k68 n b (inB k 0 ((b.lines.length:Int) - 1))
 have hw:IntKind.i64.wrap ((b.lines.length:Int) - 1) = (b.lines.length:Int) - 1:=wrap_i64 (by omega) (by omega)
 have q69:=fun n=>k69 n k 0 ((b.lines.length:Int) - 1)
 unfold wasV
 by_cases he:askedP b (inB k 0 ((b.lines.length:Int) - 1)) = 0
 ·obtain ⟨h0,h1,h2⟩:=asked0 he
  obtain ⟨k,rfl⟩:∃ j:Nat,k = j:=⟨k.toNat,by simp [inB] at h1; omega⟩
  have hk:k < b.lines.length:=by simp [inB] at h1; omega
  have hb:=fair_of h0
  rw [if_pos he]
  rw [he] at q68
  rw [h1] at he
  have hne:=was_some hk he
  have q79:=fun n=>k79 n b
  have hL0:Lv33 b k [] [(rkey,4,.loop (fr33 b) [23,24] r33_6 body33 39 .ready),(2,0,.box (cellsT b)),(3,1,.box [i k]),(7,3,.box [.mp 0 20 2]),(20,2,.map [])] :=
   ⟨by simp [rkey],by simp [rkey],by simp [rkey],by simp [rkey],by simp [rkey],by simp [rkey],by simp,fun t ht=>by
    have e0:¬ 0 = t.up.length:=by omega
    obtain ⟨up,loc⟩:=t
    simp only at e0
    have:=shut_mapF ⟨up,loc⟩ []
    simp only [List.map_nil] at this
    simp [cellsT,e0,this],⟨by simp,by simp⟩⟩
  obtain ⟨L',c',r1,r2,r3⟩:=k102 hb (fun a L h=>h.st) (step33 hb hk) [] _ hL0 (fr33 b)
  have hfd:foundP b k = runT (stepW k) [] (truthsP b):=rfl
  rw [← hfd] at r1
  have hline:b.lines.getD k line0 = b.lines[k]:=by simp [List.getD_eq_getElem?_getD,hk]
  unfold wasP at hne ⊢
  rw [hline] at hne
  rw [Int.toNat_natCast,hline]
  generalize foundP b k = a at *
  obtain ⟨p2,p3,p7,p20,p22,p36,pr,pst,pok⟩:=r1
  have hrok:∀ x ∈ readingsP b.chairs b.lines[k],okL x:=fun x hx=>reading_ok hb hk hx
  have hrl:(readingsP b.chairs b.lines[k]).length≤40:=by have:=readingsP_len b.chairs b.lines[k] hb.ch4; omega
  have q81:=fun n=>o81 n b b.lines[k] hb.ch1 hb.ch4
  have hgk:(b.lines.map encL)[k]? = some (encL b.lines[k]):=by simp [hk]
  generalize readingsP b.chairs b.lines[k] = X at *
  have hLv:Lv80 c' a X [(36,c',.vec 96 (X.map encL)),(2,0,.box (cellsT b)),(3,1,.box [i k]),(7,3,.box [.mp 0 20 2]),(20,2,.map (a.map encF))] :=
   ⟨by simp,by simp,by simp,fun t ht=>by
    have e0:¬ 0 = t.up.length:=by omega
    obtain ⟨up,loc⟩:=t
    simp only at e0
    rw [shutLv_cons,shut_vecL]
    simp [cellsT,e0]⟩
  have r3:=r3 (n + 993)
  have hw2:((b.lines.length:Int) - 1) = ((b.lines.length:Int) - 1):=rfl
  rw [h1] at q69 q68
  simp only [cellsT,fr33,Nat.add_assoc,Nat.reduceAdd] at q68 q79 r3 q81
  simp only [encL] at hgk q81
  simp [c33,argFr,cellsT,encL,encC,hw,q69,q68,q79,exec_range]
  rw [xRange_eq rfl]
  simp
  rw [show (Code.block 1 r33_7) = body33 from rfl]
  simp only [r3]
  rw [rE_ready (fr0:=fr33 b) (ps:=[23,24]) (asg:=r33_6) (body:=body33) (N:=39) (by simpa using pr) (by omega)]
  simp [cellsT,p2,p3,p7,p20,p22,p36,Level.put,rkey,hk,hgk,encL,q81]
  obtain ⟨L2,es,c2,i2,e36,etk,ele,q80⟩:=k80 (n + 2494) hLv pok hrok hrl (c' + 1) 38 [(36,true,V.vec 0 36 c' X.length),(37,true,V.fn 82 [] [V.ptr 0 7 3 0]),
             (35,true,V.agg [i b.lines[k].k,i b.lines[k].c,i b.lines[k].t]),
             (34,true,V.ref [i b.lines[k].k,i b.lines[k].c,i b.lines[k].t]),(33,true,i k),
             (32,true,V.list false (List.map encL b.lines)),(31,true,V.ptr 0 2 0 3),
             (30,true,
              V.agg
               [i b.chairs,i b.coin,i b.box,V.list false (List.map encL b.lines),
                V.list false (List.map encC b.counts)]),
             (2,true,V.ptr 0 2 0 0),(3,true,V.ptr 0 3 1 0),(7,true,V.ptr 0 7 3 0)] (by omega)
  simp only [cellsT,Nat.add_assoc,Nat.reduceAdd] at q80
  rw [q80]
  generalize X.filter (· ∈ a) = F at *
  have hcl:(F.map encL).all (fun e=>e.all (closedV 8)) = true:=by simp [encL]
  cases F with
  | nil=>exact absurd rfl hne
  | cons y F =>
   simp [e36]
   rw [if_pos (by simpa using ele)]
   simp at etk
   simp [etk,sl,encL]
   done
 ·have e:decide (askedP b (inB k 0 ((b.lines.length:Int) - 1)) = 0) = false:=by simpa using he
  rw [if_neg he]
  simp only [cellsT] at q68 ⊢
  generalize inB k 0 ((b.lines.length:Int) - 1) = z at *
  generalize askedP b z = A at q68 e ⊢
  simp [c33,argFr,encL,encC,hw,q69,q68,e]
  done
def isIn (L:List (List Line)) (k:Nat) (x:Line):Bool:=L.any fun t=>decide (t.getD k line0 = x)
def wasR (b:Book) (L:List (List Line)) (k:Nat):List Line:=(readings b.chairs (b.lines.getD k line0)).filter (isIn L k)
theorem Rd.ok {b:Book} (hb:Fair b):∀ {ls xs:List Line},(∀ l ∈ ls,l ∈ b.lines)→Rd b.chairs ls xs→∀ x ∈ xs,okL x
 | [],[],_,_,x,hx=>by simp at hx
 | [],_ :: _,_,h,_,_=>by cases h
 | _ :: _,[],_,h,_,_=>by cases h
 | l :: ls,y :: xs,hm,h,x,hx=>by
  rcases List.mem_cons.1 hx with rfl | hx
  ·obtain ⟨j,hj,e⟩:=List.getElem_of_mem (hm l (by simp))
   exact reading_ok hb hj (by rw [e]; exact h.1)
  ·exact Rd.ok hb (fun l hl=>hm l (by simp [hl])) h.2 x hx
theorem truths_ok {b:Book} (hf:faultB b = 0):∀ t ∈ truthsR b,∀ x ∈ t,okL x:=by
 intro t ht
 obtain ⟨h1,h4,_,_,_,_,_,_,hok,_⟩:=fault0 hf
 have:=(truthsR_mem hf).1 ht
 simp only [fitsB,Bool.and_eq_true] at this
 exact Rd.ok (fair_of (by rw [check_eq]; exact hf)) (fun l hl=>hl) ((isRead_iff h1 hok).1 this.1)
theorem eqD_96 (l x:Line) (hl:okL l) (hx:okL x):evEq Try.prog 96 (encL l) (encL x) = some (decide (l = x)):=by
 rw [eq_96 l x hl hx]
 congr 1
 obtain ⟨a1,a2,a3⟩:=l
 obtain ⟨b1,b2,b3⟩:=x
 rw [Bool.eq_iff_iff]
 simp
theorem was_eq {b:Book} (hf:faultB b = 0) {k:Nat} (hk:k < b.lines.length):wasP b k = wasR b (truthsR b) k:=by
 obtain ⟨h1,h4,_,_,_,_,_,_,hok,_⟩:=fault0 hf
 have hline:b.lines.getD k line0 = b.lines[k]:=by simp [List.getD_eq_getElem?_getD,hk]
 unfold wasP wasR
 rw [hline,readings_eq h1 h4 (List.all_eq_true.1 hok _ (List.getElem_mem hk))]
 refine List.filter_congr fun x _=>?_
 rw [Bool.eq_iff_iff,decide_eq_true_iff,found_mem hf,isIn,List.any_eq_true]
 constructor
 ·rintro ⟨t,h,e⟩
  exact ⟨t,(truthsR_mem hf).2 h,decide_eq_true e⟩
 ·rintro ⟨t,h,e⟩
  exact ⟨t,(truthsR_mem hf).1 h,of_decide_eq_true e⟩
theorem was_ok {b:Book} (hf:faultB b = 0) {k:Nat} (hk:k < b.lines.length):(∀ x ∈ wasP b k,okL x)∧(wasP b k).length≤40:=by
 obtain ⟨h1,h4,_,_,_,_,_,_,hok,_⟩:=fault0 hf
 have hb:Fair b:=fair_of (by rw [check_eq]; exact hf)
 have hline:b.lines.getD k line0 = b.lines[k]:=by simp [List.getD_eq_getElem?_getD,hk]
 unfold wasP
 rw [hline]
 refine ⟨fun x hx=>reading_ok hb hk (List.mem_filter.1 hx).1,?_⟩
 have h1:=List.length_filter_le (fun x=>decide (x ∈ foundP b k)) (readingsP b.chairs b.lines[k])
 have h2:=readingsP_len b.chairs b.lines[k] h4
 omega
end Go.Proofs.Try.Op
