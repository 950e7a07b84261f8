/- Running a Go function upon abstract values, by computing: one operation, and that it is what the walk asks. No program in sight. -/
import Derived.Test.YtkemmiljbaneoaaP5
namespace Go.Pg
variable {P:Program} {Ω:OwnT P} {σ σ':Nat→Nat} {δ:Nat} {pre:List Level} {s:St} {fr:Fr} {g:Bool}

def gdL (all:List Oper) (o:Oper):Option (Tmp × Bool):=match o.guard with
 | none=>none
 | some (j,w)=>match all[j]? with
  | some p=>match p.dst with
   | some d=>some (d,w)
   | none=>none
  | none=>none
def guardsB (all:List Oper):Bool:=all.all fun o=>guardIs all o (gdL all o)
theorem gsOK_of {all:List Oper}:∀ {l:List Oper},(∀ o ∈ l,guardIs all o (gdL all o) = true)→gsOK all (l.map (gdL all)) l = true
 | [],_=>rfl
 | o :: l,h=>by
  simp only [List.map_cons,gsOK,Bool.and_eq_true]
  exact ⟨h o (by simp),gsOK_of fun p hp=>h p (by simp [hp])⟩
theorem guardsB_spec {all:List Oper} (h:guardsB all = true):∀ o ∈ all,guardIs all o (gdL all o) = true:=fun o ho=>List.all_eq_true.1 h o ho

/-! ### How a region that draws is walked -/
def usesR (d:Tmp) (p:Oper):Bool:=match p.op with
 | .call { callee:=.builtin .append,args,.. }=>match args.toList with
  | .tmp t :: _=>Nat.beq t d
  | _=>false
 | .call { callee:=.value (.func _),args,argTypes }=>match args.toList,argTypes.toList with
  | [.tmp t,_],[T,U]=>Nat.beq t d && Nat.beq T p.type && !(Nat.beq U T)
  | _,_=>false
 | _=>false
def boxesR (d:Tmp) (p:Oper):Bool:=match p.op with
 | .store _ _ (.tmp t)=>Nat.beq t d
 | _=>false
def ownOf (l:List Oper) (o:Oper):Bool:=match o.op,o.dst with
 | .call { callee:=.value _,.. },some d=>l.any fun p=>usesR d p || boxesR d p
 | _,_=>false
def kS (o:Oper):Bool:=match o.op with
 | .mapUpdate .. | .insert ..=>true
 | .call { callee:=.builtin b,.. }=>match b with
  | .len | .max | .min | .cap | .append=>false
  | _=>true
 | _=>false
def kC (o:Oper):Bool:=match o.op with
 | .call { callee:=.value _,.. }=>true
 | _=>false
def onB (o:Oper) (A:List Nat):Bool:=o.after.any fun e=>Region.binds .any e && A.contains e.on
def lastW (o:Oper) (l:List Oper) (A:List Nat):Bool:=kW o && l.isEmpty && A.all fun j=>o.after.any fun e=>Region.binds .any e && Nat.beq e.on j
def insA (o:Oper) (i:Nat):List Nat→List Nat
 | []=>[i]
 | a :: A=>cond (onB o [a]) (i :: a :: A) (a :: insA o i A)
def planGo (own:Oper→Bool):List Oper→Nat→List Nat→List Nat→List Nat→List Nat→List Nat→List Nat→List Nat × List Nat
 | [],_,R,Q,A,S,R2,T=>(R.reverse ++ Q.reverse ++ A.reverse ++ S.reverse ++ R2.reverse,T.reverse)
 | o :: l,i,R,Q,A,S,R2,T =>
  cond (onB o T || kS o || lastW o l (R ++ Q ++ A ++ S ++ R2 ++ T) || (kC o && (onB o (Q ++ S ++ R2) || (!(own o) && onB o A)))) (planGo own l (i + 1) R Q A S R2 (i :: T))
   (cond (kP o) (cond (onB o (A ++ S ++ R2)) (planGo own l (i + 1) R Q A S (i :: R2) T) (planGo own l (i + 1) R (i :: Q) A S R2 T))
   (cond (kW o) (cond (onB o R2) (planGo own l (i + 1) R Q A S (i :: R2) T) (planGo own l (i + 1) R Q A (i :: S) R2 T))
    (cond (onB o (Q ++ S ++ R2) || (cond (kA own o) (!R2.isEmpty) (onB o (A.take 1)))) (planGo own l (i + 1) R Q A S (i :: R2) T)
     (cond (kA own o) (planGo own l (i + 1) R Q (i :: A) S R2 T) (cond (onB o A) (planGo own l (i + 1) R Q (insA o i A) S R2 T) (planGo own l (i + 1) (i :: R) Q A S R2 T))))))
def ancOf (af:Nat):List (Nat × Nat)→Nat→Nat
 | [],m=>m
 | p :: r,m=>forceN (cond (bitB af p.1) (Nat.lor m (Nat.lor p.2 (Nat.shiftLeft 1 p.1))) m) (ancOf af r)
def ancs:List (Nat × Nat)→List (Nat × Nat)→List (Nat × Nat)
 | [],acc=>acc
 | p :: r,acc=>forceN (ancOf p.2 acc 0) fun m=>ancs r ((p.1,m) :: acc)
def cutsOf (l:List Oper):List Nat:=((ancs (afL l 0) []).filterMap fun p=>cond (Nat.beq p.2 (Nat.sub (Nat.pow 2 p.1) 1)) (match l[p.1]? with
 | some o=>cond (kC o && Nat.beq (waitM p.1 (afL l 0) 0) (Nat.sub (Nat.pow 2 l.length) (Nat.pow 2 (p.1 + 1)))) (some p.1) none
 | none=>none) none).reverse
def segGo (own:Oper→Bool) (l:List Oper):Nat→List Nat→Segs
 | i,[]=>[planGo own (l.drop i) i [] [] [] [] [] []]
 | i,c :: cs=>match planGo own ((l.drop i).take (c - i)) i [] [] [] [] [] [] with
  | (R,T)=>(R,T ++ [c]) :: segGo own l (c + 1) cs
def segD (l:List Oper):Segs:=segGo (ownOf l) l 0 (cutsOf l)
def dstA (l:List Oper):List Nat:=l.filterMap fun o=>cond (kA (ownOf l) o) o.dst none

def flatC:Code→Bool
 | .seq a b=>flatC a && flatC b
 | .cond _ a b=>flatC a && flatC b
 | .block _ c=>flatC c
 | .loop c=>flatC c
 | .scope _=>false
 | .rangeFunc ..=>false
 | _=>true
def codeN (N:Nat):Code→Bool
 | .region _ ops draw=>cond draw (drawOK (ownOf ops.toList) N (ops.toList.map (gdL ops.toList)) (segD ops.toList) ops.toList) (dstOK N ops.toList && guardsB ops.toList)
 | .seq a b=>codeN N a && codeN N b
 | .cond _ a b=>codeN N a && codeN N b
 | .block _ c=>codeN N c
 | .loop c=>codeN N c
 | .scope c=>codeN N c
 | .rangeFunc _ ps asg body=>ps.toList.all (fun p=>Nat.blt p N) && flatC asg && flatC body && codeN N asg && codeN N body
 | _=>true
def loopB (N:Nat) (ps:List Tmp) (asg body:Code):Bool:=ps.all (fun p=>Nat.blt p N) && flatC asg && flatC body && codeN N asg && codeN N body
def LoopsOK (s:St):Prop:=∀ l k γ fr ps asg body N st,s.get l k = some (γ,.loop fr ps asg body N st)→loopB N ps asg body = true
theorem get_put_or {s:St} {l k γ:Nat} {r:Res} {l' k':Nat} {x:Nat × Res} (h:(s.put l k γ r).get l' k' = some x):x = (γ,r)∨s.get l' k' = some x:=by
 unfold St.put at h
 unfold St.get at h ⊢
 by_cases e1:l = s.up.length
 ·rw [if_pos e1] at h
  by_cases e2:l' = s.up.length
  ·rw [if_pos e2] at h ⊢
   rw [Level.get_put] at h
   split at h
   ·exact .inl (Option.some.inj h).symm
   ·exact .inr h
  ·rw [if_neg e2] at h ⊢; exact .inr h
 ·rw [if_neg e1] at h
  have hl:({ s with up:=s.up.modify l (fun L=>L.put k γ r) }:St).up.length = s.up.length:=by simp
  rw [hl] at h
  by_cases e2:l' = s.up.length
  ·rw [if_pos e2] at h ⊢; exact .inr h
  ·rw [if_neg e2] at h ⊢
   rw [List.getElem?_modify] at h
   cases hu:s.up[l']? with
   | none=>simp [hu] at h
   | some L =>
    rw [hu] at h
    simp only [Option.map_eq_map,Option.map_some] at h
    by_cases e3:l = l'
    ·simp only [e3,if_true,Level.get_put] at h
     split at h
     ·exact .inl (Option.some.inj h).symm
     ·exact .inr h
    ·simp only [e3,if_false] at h; exact .inr h
theorem LoopsOK.put {s:St} (h:LoopsOK s) {l k γ:Nat} {r:Res} (hr:∀ fr ps asg body N st,r = .loop fr ps asg body N st→loopB N ps asg body = true):LoopsOK (s.put l k γ r):=by
 intro l' k' γ' fr ps asg body N st hg
 rcases get_put_or hg with e | e
 ·cases e; exact hr _ _ _ _ _ _ rfl
 ·exact h _ _ _ _ _ _ _ _ _ e

structure XS where
 c:Nat
 fr:Fr
 s:St

noncomputable def getF (fr:Fr) (k:Nat):Option (Bool × V):=List.rec (motive:=fun _=>Option (Bool × V)) none (fun x _ ih=>Bool.rec ih (some x.2) (Nat.beq k x.1)) fr
theorem getF_eq:∀ (fr:Fr) (k:Nat),getF fr k = fr.get k
 | [],_=>rfl
 | (j,x) :: fr,k=>by
  show (Bool.rec (getF fr k) (some x) (Nat.beq k j):Option (Bool × V)) = if k = j then some x else Fr.get fr k
  by_cases h:k = j
  ·subst h; rw [if_pos rfl,Nat.beq_refl]
  ·rw [if_neg h,← getF_eq fr k]
   have:Nat.beq k j = false:=by
    cases hb:Nat.beq k j with
    | false=>rfl
    | true=>exact absurd (Nat.eq_of_beq_eq_true hb) h
   rw [this]

noncomputable def rdX (fr:Fr) (x:Operand):Option V:=match x with
 | .tmp t=>match getF fr t with
  | some (true,v)=>some v
  | _=>none
 | .const v=>constV v
 | .func f=>some (.fn f [] [])
 | .global _=>none
theorem rdX_eq (x:Operand):rdX fr x = rdG true fr x:=by
 cases x with
 | tmp t =>
  simp only [rdX,rdG,rd,getF_eq]
  cases fr.get t with
  | none=>rfl
  | some p =>
   obtain ⟨c,v⟩:=p
   cases c <;> rfl
 | const v =>
  simp only [rdX,rdG,rd]
  cases constV v <;> rfl
 | func f=>rfl
 | global g=>rfl
theorem rdX_fun:rdX fr = rdG true fr:=funext fun x=>rdX_eq x

def agree (c:Nat) (σ σ':Nat→Nat):Prop:=∀ i,i < c→σ i = σ' i
theorem agree.refl (c:Nat) (σ:Nat→Nat):agree c σ σ:=fun _ _=>rfl
theorem agree.trans {c c':Nat} {σ σ' σ'':Nat→Nat} (h:agree c σ σ') (h':agree c' σ' σ'') (hc:c≤c'):agree c σ σ'':=fun i hi=>(h i hi).trans (h' i (Nat.lt_of_lt_of_le hi hc))
theorem agree.mono {c c':Nat} (h:agree c' σ σ') (hc:c≤c'):agree c σ σ':=fun i hi=>h i (Nat.lt_of_lt_of_le hi hc)
theorem agree.upd (c γ:Nat) (σ:Nat→Nat):agree c σ (fun i=>if i = c then γ else σ i):=fun i hi=>by simp [Nat.ne_of_lt hi]

structure Bd (st:XS):Prop where
 f:∀ σ σ' δ,agree st.c σ σ'→st.fr.ren σ δ = st.fr.ren σ' δ
 s:∀ σ σ' pre,agree st.c σ σ'→st.s.emb σ pre = st.s.emb σ' pre
 lp:LoopsOK st.s
def BdV (c:Nat) (v:V):Prop:=∀ σ σ' δ,agree c σ σ'→v.ren σ δ = v.ren σ' δ

structure Ext (st st':XS):Prop where
 c:st.c≤st'.c
 bd:Bd st'
 n:st'.s.up.length = st.s.up.length

def StepX (P:Program) (o:Oper) (st st':XS):Prop:=Ext st st'∧∀ (σ:Nat→Nat) (pre:List Level) (k:Fr→St→Prop),(∀ σ',agree st.c σ σ'→k (st'.fr.ren σ' pre.length) (st'.s.emb σ' pre))→stepP P true o (st.fr.ren σ pre.length) (st.s.emb σ pre) k

theorem ren_putD (d:Option Tmp) (c:Bool) (v:V):(putD fr d c v).ren σ δ = putD (fr.ren σ δ) d c (v.ren σ δ):=by cases d <;> rfl
theorem ren_put (d:Nat) (c:Bool) (v:V):(fr.put d c v).ren σ δ = (fr.ren σ δ).put d c (v.ren σ δ):=rfl

theorem BdV.mono {c c':Nat} {v:V} (h:BdV c v) (hc:c≤c'):BdV c' v:=fun σ σ' δ ha=>h σ σ' δ (ha.mono hc)
theorem Bd.val {st:XS} (h:Bd st) {o:Oper} {v:V} (hv:valD P g o st.fr st.s = some v):BdV st.c v:=by
 intro σ σ' δ ha
 have h1:=valD_ren (σ:=σ) (pre:=List.replicate δ []) hv
 have h2:=valD_ren (σ:=σ') (pre:=List.replicate δ []) hv
 rw [h.f σ σ' _ ha,h.s σ σ' _ ha,h2] at h1
 have:=Option.some.inj h1
 rw [List.length_replicate] at this
 exact this.symm
theorem Bd.rd {st:XS} (h:Bd st) {x:Operand} {v:V} (hv:rdX st.fr x = some v):BdV st.c v:=by
 intro σ σ' δ ha
 rw [rdX_eq] at hv
 have h1:=rdG_ren (g:=true) (fr:=st.fr) (σ:=σ) (δ:=δ) x
 have h2:=rdG_ren (g:=true) (fr:=st.fr) (σ:=σ') (δ:=δ) x
 rw [h.f σ σ' _ ha,h2,hv] at h1
 simpa using h1.symm
theorem Bd.putF {st:XS} (h:Bd st) {d:Option Tmp} {c:Bool} {v:V} (hv:BdV st.c v):Bd { st with fr:=putD st.fr d c v } :=
 ⟨fun σ σ' δ ha=>by simp only [ren_putD]; rw [h.f σ σ' δ ha,hv σ σ' δ ha],h.s,h.lp⟩
theorem Bd.mono {st:XS} (h:Bd st) {c:Nat} (hc:st.c≤c):Bd { st with c:=c }:=⟨fun σ σ' δ ha=>h.f σ σ' δ (ha.mono hc),fun σ σ' pre ha=>h.s σ σ' pre (ha.mono hc),h.lp⟩
def plR:Res→Bool
 | .loop ..=>false
 | _=>true
theorem plR_lp {r:Res} (h:plR r = true):∀ fr ps asg body N st,r = .loop fr ps asg body N st→loopB N ps asg body = true:=by
 intro fr ps asg body N st e; subst e; cases h
theorem Bd.putS {st:XS} (h:Bd st) {l k γ:Nat} {r:Res} (hγ:γ < st.c) (hr:∀ σ σ' δ,agree st.c σ σ'→r.ren σ δ = r.ren σ' δ) (hp:plR r = true:=by rfl):Bd { st with s:=st.s.put l k γ r } :=
 ⟨h.f,fun σ σ' pre ha=>by simp only [emb_put]; rw [h.s σ σ' pre ha,hr σ σ' _ ha,ha γ hγ],h.lp.put (plR_lp hp)⟩

theorem stepX_val {o:Oper} {st:XS} {v:V} (h:Bd st) (hv:valD P true o st.fr st.s = some v):StepX P o st { st with fr:=putD st.fr o.dst true v }:=by
 refine ⟨⟨Nat.le_refl _,h.putF (h.val hv),rfl⟩,fun σ pre k hk=>stepP_of_stepD (Ω:=OwnT.nothing P) (.inl ⟨_,valD_ren hv,?_⟩)⟩
 have:=hk σ (agree.refl _ _)
 rwa [ren_putD] at this

theorem bd_cells {c:Nat} {v:V} (h:BdV c v) (σ σ':Nat→Nat) (δ:Nat) (ha:agree c σ σ'):(cellsV v).map (V.ren σ δ) = (cellsV v).map (V.ren σ' δ):=by
 rw [← cellsV_ren,← cellsV_ren,h σ σ' δ ha]

def NewX (P:Program) (Ω:OwnT P) (o:Oper) (st st':XS):Prop:=Ext st st'∧∃ d,o.dst = some d∧∀ (σ:Nat→Nat) (pre:List Level) (k:Fr→St→Prop),(∀ σ',agree st.c σ σ'→k (st'.fr.ren σ' pre.length) (st'.s.emb σ' pre)) →
 ∃ r,newD P Ω o (st.fr.ren σ pre.length) = some r∧∀ γ,k ((st.fr.ren σ pre.length).put d true (r.val (st.s.emb σ pre).up.length d γ)) ((st.s.emb σ pre).put (st.s.emb σ pre).up.length d γ r.res)
theorem NewX.step {o:Oper} {st st':XS} (h:NewX P Ω o st st'):StepX P o st st':=by
 obtain ⟨h1,d,hd,h2⟩:=h
 refine ⟨h1,fun σ pre k hk=>?_⟩
 obtain ⟨r,hr,h3⟩:=h2 σ pre k hk
 exact stepP_of_stepD (Ω:=Ω) (.inr (.inr ⟨r,d,rfl,hd,hr,h3⟩))

theorem stepX_new {o:Oper} {st:XS} {d:Nat} {cs:List V} (h:Bd st) (hd:o.dst = some d) (hcs:∀ σ σ' δ,agree st.c σ σ'→cs.map (V.ren σ δ) = cs.map (V.ren σ' δ))
  (hn:∀ σ pre,newD P Ω o (st.fr.ren σ (List.length (α:=Level) pre)) = some ⟨.box (cs.map (V.ren σ pre.length)),none⟩) :
  NewX P Ω o st ⟨st.c + 1,st.fr.put d true (.ptr st.s.up.length d st.c 0),st.s.put st.s.up.length d st.c (.box cs)⟩:=by
 have hb:∀ σ σ',agree (st.c + 1) σ σ'→agree st.c σ σ':=fun σ σ' ha=>ha.mono (Nat.le_succ _)
 refine ⟨⟨Nat.le_succ _,⟨fun σ σ' δ ha=>?_,fun σ σ' pre ha=>?_,h.lp.put (plR_lp rfl)⟩,St.put_len _ _ _ _ _⟩,d,hd,fun σ pre k hk=>⟨_,hn σ pre,fun γ=>?_⟩⟩
 ·simp only [ren_put,ren_ptr]
  rw [h.f σ σ' δ (hb _ _ ha),ha st.c (Nat.lt_succ_self _)]
 ·simp only [emb_put,Res.ren]
  rw [h.s σ σ' pre (hb _ _ ha),hcs σ σ' _ (hb _ _ ha),ha st.c (Nat.lt_succ_self _)]
 ·have:=hk (fun i=>if i = st.c then γ else σ i) (agree.upd _ _ _)
  have ha:=agree.upd st.c γ σ
  simp only [ren_put,ren_ptr,if_true,emb_put,Res.ren] at this
  rw [← h.f _ _ _ ha,← h.s _ _ _ ha,← hcs _ _ _ ha] at this
  rw [emb_len]
  exact this

noncomputable def xAlloc (P:Program) (d:Option Tmp) (T:TypeId) (st:XS):Option XS:=match d,zeroC P T with
 | some d,some cs=>some ⟨st.c + 1,(d,true,.ptr st.s.up.length d st.c 0) :: st.fr,st.s.put st.s.up.length d st.c (.box cs)⟩
 | _,_=>none
noncomputable def xBox (d:Option Tmp) (x:Operand) (st:XS):Option XS:=match d,rdX st.fr x with
 | some d,some v=>Bool.rec none (some ⟨st.c + 1,(d,true,.ptr st.s.up.length d st.c 0) :: st.fr,st.s.put st.s.up.length d st.c (.box (cellsV v))⟩) (flatOk v)
 | _,_=>none

theorem xAlloc_ok {o:Oper} {T:TypeId} {st st':XS} (h:Bd st) (ho:o.op = .alloc T) (hx:xAlloc P o.dst T st = some st'):NewX P Ω o st st':=by
 unfold xAlloc at hx
 split at hx
 ·rename_i d cs hd hz
  cases hx
  refine stepX_new h hd (fun σ σ' δ _=>by rw [zeroC_ren hz,zeroC_ren hz]) fun σ pre=>?_
  simp [newD,ho,hz,zeroC_ren hz]
 ·cases hx
theorem xBox_ok {o:Oper} {T:TypeId} {x:Operand} {st st':XS} (h:Bd st) (ho:o.op = .box T x) (hx:xBox o.dst x st = some st'):NewX P Ω o st st':=by
 unfold xBox at hx
 split at hx
 ·rename_i d v hd hv
  cases hf:flatOk v with
  | false=>rw [hf] at hx; cases hx
  | true =>
   rw [hf] at hx
   cases hx
   refine stepX_new h hd (fun σ σ' δ ha=>bd_cells (h.rd hv) σ σ' δ ha) fun σ pre=>?_
   rw [rdX_eq] at hv
   simp [newD,ho,rdG_ren,hv,flatOk_ren,hf,cellsV_ren]
 ·cases hx

noncomputable def xMake (P:Program) (d:Option Tmp) (T:TypeId) (x y:Operand) (st:XS):Option XS:=match d,elemT P T with
 | some d,some (none,e)=>match rdX st.fr x,rdX st.fr y with
  | some (.int _ n),some (.int _ m)=>match zeroC P e with
   | some z=>if 0≤n∧m = n∧z.length = P.cellsOf e∧n.toNat * P.bytesOf e≤140737488355328∧n.toNat≤maxLen then
     some ⟨st.c + 1,(d,true,.vec st.s.up.length d st.c n.toNat) :: st.fr,st.s.put st.s.up.length d st.c (.vec e (List.replicate n.toNat z))⟩ else none
   | none=>none
  | _,_=>none
 | _,_=>none
theorem xMake_ok {o:Oper} {T:TypeId} {x y:Operand} {st st':XS} (h:Bd st) (ho:o.op = .makeSlice T x y) (hx:xMake P o.dst T x y st = some st'):NewX P Ω o st st':=by
 unfold xMake at hx
 split at hx
 ·rename_i d e hd hel
  split at hx
  ·rename_i k1 n k2 m h1 h2
   split at hx
   ·rename_i z hz
    split at hx
    ·rename_i hc
     cases hx
     rw [rdX_eq] at h1 h2
     have hr:∀ σ δ,(List.replicate n.toNat z).map (List.map (V.ren σ δ)) = List.replicate n.toNat z:=fun σ δ=>by rw [List.map_replicate,zeroC_ren hz]
     have hb:∀ σ σ',agree (st.c + 1) σ σ'→agree st.c σ σ':=fun σ σ' ha=>ha.mono (Nat.le_succ _)
     refine ⟨⟨Nat.le_succ _,⟨fun σ σ' δ ha=>?_,fun σ σ' pre ha=>?_,h.lp.put (plR_lp rfl)⟩,St.put_len _ _ _ _ _⟩,d,hd,fun σ pre k hk=>⟨⟨.vec e (List.replicate n.toNat z),none⟩,?_,fun γ=>?_⟩⟩
     ·show ((st.fr.put d true _).ren σ δ) = ((st.fr.put d true _).ren σ' δ)
      simp only [ren_put,ren_vec]
      rw [h.f σ σ' δ (hb _ _ ha),ha st.c (Nat.lt_succ_self _)]
     ·simp only [emb_put,Res.ren,hr]
      rw [h.s σ σ' pre (hb _ _ ha),ha st.c (Nat.lt_succ_self _)]
     ·simp only [newD,ho,rdG_ren,h1,h2,Option.map_some,ren_int,hel,hz]
      rw [if_pos hc]
     ·have:=hk (fun i=>if i = st.c then γ else σ i) (agree.upd _ _ _)
      have ha:=agree.upd st.c γ σ
      change k ((st.fr.put d true _).ren _ _) _ at this
      simp only [ren_put,ren_vec,if_true,emb_put,Res.ren,hr] at this
      rw [← h.f _ _ _ ha,← h.s _ _ _ ha] at this
      simp only [Mk.val,made,List.length_replicate]
      rw [emb_len]
      exact this
    ·cases hx
   ·cases hx
  ·cases hx
 ·cases hx

noncomputable def xMap (d:Option Tmp) (r:Option Operand) (st:XS):Option XS:=match d,r with
 | some d,none=>some ⟨st.c + 1,(d,true,.mp st.s.up.length d st.c) :: st.fr,st.s.put st.s.up.length d st.c (.map [])⟩
 | _,_=>none
theorem xMap_ok {o:Oper} {T:TypeId} {r:Option Operand} {st st':XS} (h:Bd st) (ho:o.op = .makeMap T r) (hx:xMap o.dst r st = some st'):NewX P Ω o st st':=by
 unfold xMap at hx
 split at hx
 ·rename_i d hd
  cases hx
  have hb:∀ σ σ',agree (st.c + 1) σ σ'→agree st.c σ σ':=fun σ σ' ha=>ha.mono (Nat.le_succ _)
  refine ⟨⟨Nat.le_succ _,⟨fun σ σ' δ ha=>?_,fun σ σ' pre ha=>?_,h.lp.put (plR_lp rfl)⟩,St.put_len _ _ _ _ _⟩,d,hd,fun σ pre k hk=>⟨⟨.map [],none⟩,?_,fun γ=>?_⟩⟩
  ·show ((st.fr.put d true _).ren σ δ) = ((st.fr.put d true _).ren σ' δ)
   simp only [ren_put,ren_mp]
   rw [h.f σ σ' δ (hb _ _ ha),ha st.c (Nat.lt_succ_self _)]
  ·simp only [emb_put,Res.ren,List.map_nil]
   rw [h.s σ σ' pre (hb _ _ ha),ha st.c (Nat.lt_succ_self _)]
  ·simp only [newD,ho]
  ·have:=hk (fun i=>if i = st.c then γ else σ i) (agree.upd _ _ _)
   have ha:=agree.upd st.c γ σ
   change k ((st.fr.put d true _).ren _ _) _ at this
   simp only [ren_put,ren_mp,if_true,emb_put,Res.ren,List.map_nil] at this
   rw [← h.f _ _ _ ha,← h.s _ _ _ ha] at this
   simp only [Mk.val,made]
   rw [emb_len]
   exact this
 ·cases hx

noncomputable def xStore (P:Program) (d:Option Tmp) (T:TypeId) (x y:Operand) (st:XS):Option XS:=match d with
 | some _=>none
 | none=>match rdX st.fr x,rdX st.fr y with
  | some (.ptr l q γ off),some v=>match st.s.get l q with
   | some (γ',.box cs)=>if Nat.beq γ' γ && flatOk v && Nat.blt 0 (P.cellsOf T) && Nat.beq (cellsV v).length (P.cellsOf T) && Nat.ble (off + P.cellsOf T) cs.length && Nat.blt γ st.c then some { st with s:=st.s.put l q γ (.box (spliceL cs off (cellsV v))) } else none
   | _=>none
  | some (.eptr l q γ i off),some v=>match st.s.get l q with
   | some (γ',.vec U es)=>if Nat.beq γ' γ && flatOk v && Nat.blt 0 (P.cellsOf T) && Nat.beq (cellsV v).length (P.cellsOf T) && Nat.blt i es.length && Nat.ble (off + P.cellsOf T) (es.getD i []).length && Nat.blt γ st.c then some { st with s:=st.s.put l q γ (.vec U (es.set i (spliceL (es.getD i []) off (cellsV v)))) } else none
   | _=>none
  | _,_=>none

theorem bd_get {st:XS} (h:Bd st) {l q γ:Nat} {r:Res} (hg:st.s.get l q = some (γ,r)) (σ σ':Nat→Nat) (δ:Nat) (ha:agree st.c σ σ'):r.ren σ δ = r.ren σ' δ:=by
 have h1:=emb_get (s:=st.s) (σ:=σ) (pre:=List.replicate δ []) l q
 have h2:=emb_get (s:=st.s) (σ:=σ') (pre:=List.replicate δ []) l q
 rw [h.s σ σ' _ ha,h2,hg] at h1
 simp only [Option.map_some,List.length_replicate,Option.some.injEq,Prod.mk.injEq] at h1
 exact h1.2.symm

theorem map_set_ren (es:List (List V)) (i:Nat) (x:List V):(es.set i x).map (List.map (V.ren σ δ)) = (es.map (List.map (V.ren σ δ))).set i (x.map (V.ren σ δ)):=by simp [List.map_set]

theorem xStore_ok {o:Oper} {T:TypeId} {x y:Operand} {st st':XS} (h:Bd st) (ho:o.op = .store T x y) (hx:xStore P o.dst T x y st = some st'):StepX P o st st':=by
 unfold xStore at hx
 split at hx
 ·cases hx
 ·rename_i hd
  split at hx
  ·rename_i l q γ off v h1 h2
   split at hx
   ·rename_i γ' cs hg
    split at hx
    ·rename_i hc
     simp only [Bool.and_eq_true,Nat.blt_eq,Nat.ble_eq] at hc
     obtain ⟨⟨⟨⟨⟨c1,c2⟩,c3⟩,c4⟩,c5⟩,c6⟩:=hc
     have c1:=Nat.eq_of_beq_eq_true c1
     have c4:=Nat.eq_of_beq_eq_true c4
     subst c1
     cases hx
     have hv:=h.rd h2
     refine ⟨⟨Nat.le_refl _,h.putS c6 fun σ σ' δ ha=>?_,St.put_len _ _ _ _ _⟩,fun σ pre k hk=>?_⟩
     ·have hr:=bd_get h hg σ σ' δ ha
      simp only [Res.ren,Res.box.injEq] at hr ⊢
      rw [← spliceL_map,← spliceL_map,hr,bd_cells hv σ σ' δ ha]
     ·have:=hk σ (agree.refl _ _)
      rw [rdX_eq] at h1 h2
      unfold stepP
      simp only [ho,rdG_ren,h1,h2,Option.map_some,ren_ptr,emb_get,hg,Res.ren]
      refine ⟨trivial,trivial,by rw [flatOk_ren]; exact c2,c3,by rw [cellsV_ren]; simpa using c4,by simpa using c5,hd,?_⟩
      rw [cellsV_ren,spliceL_map]
      rw [emb_put] at this
      exact this
    ·cases hx
   ·cases hx
  ·rename_i l q γ i off v h1 h2
   split at hx
   ·rename_i γ' U es hg
    split at hx
    ·rename_i hc
     simp only [Bool.and_eq_true,Nat.blt_eq,Nat.ble_eq] at hc
     obtain ⟨⟨⟨⟨⟨⟨c1,c2⟩,c3⟩,c4⟩,c5⟩,c6⟩,c7⟩:=hc
     have c1:=Nat.eq_of_beq_eq_true c1
     have c4:=Nat.eq_of_beq_eq_true c4
     subst c1
     cases hx
     have hv:=h.rd h2
     refine ⟨⟨Nat.le_refl _,h.putS c7 fun σ σ' δ ha=>?_,St.put_len _ _ _ _ _⟩,fun σ pre k hk=>?_⟩
     ·have hr:=bd_get h hg σ σ' δ ha
      simp only [Res.ren,Res.vec.injEq,true_and] at hr ⊢
      rw [map_set_ren,map_set_ren,← spliceL_map,← spliceL_map,← getD_map_ren,← getD_map_ren,hr,bd_cells hv σ σ' δ ha]
     ·have:=hk σ (agree.refl _ _)
      rw [rdX_eq] at h1 h2
      unfold stepP
      simp only [ho,rdG_ren,h1,h2,Option.map_some,ren_eptr,emb_get,hg,Res.ren]
      refine ⟨trivial,trivial,by rw [flatOk_ren]; exact c2,c3,by rw [cellsV_ren]; simpa using c4,by simpa using c5,by rw [getD_map_ren]; simpa using c6,hd,?_⟩
      rw [getD_map_ren,cellsV_ren,spliceL_map,← map_set_ren]
      rw [emb_put] at this
      exact this
    ·cases hx
   ·cases hx
  ·cases hx

noncomputable def xUpd (P:Program) (d:Option Tmp) (T:TypeId) (x i y:Operand) (st:XS):Option XS:=match d with
 | some _=>none
 | none=>match rdX st.fr x,rdX st.fr i,rdX st.fr y with
  | some m,some i,some v=>match evUpd P st.s T m i v with
   | some (l,q,γ,es)=>Bool.rec none (some { st with s:=st.s.put l q γ (.map es) }) (Nat.blt γ st.c)
   | none=>none
  | _,_,_=>none
theorem xUpd_ok {o:Oper} {T:TypeId} {x i y:Operand} {st st':XS} (h:Bd st) (ho:o.op = .mapUpdate T x i y) (hx:xUpd P o.dst T x i y st = some st'):StepX P o st st':=by
 unfold xUpd at hx
 split at hx
 ·cases hx
 ·rename_i hd
  split at hx
  ·rename_i m i' v h1 h2 h3
   split at hx
   ·rename_i l q γ es hu
    cases hb:Nat.blt γ st.c with
    | false=>rw [hb] at hx; cases hx
    | true =>
     rw [hb] at hx
     have hlt:γ < st.c:=by simpa using hb
     cases hx
     have hm:=h.rd h1
     have hi:=h.rd h2
     have hv:=h.rd h3
     refine ⟨⟨Nat.le_refl _,h.putS hlt fun σ σ' δ ha=>?_,St.put_len _ _ _ _ _⟩,fun σ pre k hk=>?_⟩
     ·have q1:=evUpd_ren (σ:=σ) (pre:=List.replicate δ []) hu
      have q2:=evUpd_ren (σ:=σ') (pre:=List.replicate δ []) hu
      rw [h.s σ σ' _ ha,hm σ σ' _ ha,hi σ σ' _ ha,hv σ σ' _ ha,q2] at q1
      simp only [Option.some.injEq,Prod.mk.injEq,List.length_replicate] at q1
      simp only [Res.ren,q1.2.2.2]
     ·have:=hk σ (agree.refl _ _)
      rw [rdX_eq] at h1 h2 h3
      unfold stepP
      simp only [ho,rdG_ren,h1,h2,h3,Option.map_some,evUpd_ren hu]
      refine ⟨trivial,hd,?_⟩
      rw [emb_put] at this
      exact this
   ·cases hx
  ·cases hx

noncomputable def xClear (P:Program) (d:Option Tmp) (args:List Operand) (Ts:List TypeId) (st:XS):Option XS:=match args,Ts,d with
 | [x],[T],none=>match elemT P T,rdX st.fr x with
  | some (none,e),some (.vtl l q γ i n)=>match st.s.get l q,zeroC P e with
   | some (γ',.vec U es),some z=>Bool.rec none (some { st with s:=st.s.put l q γ (.vec U (es.take i ++ List.replicate n z ++ es.drop (i + n))) }) (Nat.beq γ' γ && Nat.beq U e && Nat.ble (i + n) es.length && es.all (fun y=>y.length == z.length) && Nat.blt γ st.c)
   | _,_=>none
  | _,_=>none
 | _,_,_=>none
theorem xClear_ok {o:Oper} {args:Array Operand} {Ts:Array TypeId} {st st':XS} (h:Bd st) (ho:o.op = .call { callee:=.builtin .clear,args:=args,argTypes:=Ts }) (hx:xClear P o.dst args.toList Ts.toList st = some st'):StepX P o st st':=by
 unfold xClear at hx
 split at hx
 ·rename_i x T ha hT hd
  split at hx
  ·rename_i e l q γ i n hel h1
   split at hx
   ·rename_i γ' U es z hg hz
    cases hb:(Nat.beq γ' γ && Nat.beq U e && Nat.ble (i + n) es.length && es.all (fun y=>y.length == z.length) && Nat.blt γ st.c) with
    | false=>rw [hb] at hx; cases hx
    | true =>
     rw [hb] at hx
     cases hx
     simp only [Bool.and_eq_true,Nat.blt_eq,Nat.ble_eq] at hb
     obtain ⟨⟨⟨⟨c1,c2⟩,c3⟩,c4⟩,c5⟩:=hb
     have c1:=Nat.eq_of_beq_eq_true c1
     have c2:=Nat.eq_of_beq_eq_true c2
     subst c1; subst c2
     have hz':∀ σ δ,z.map (V.ren σ δ) = z:=fun σ δ=>zeroC_ren hz
     refine ⟨⟨Nat.le_refl _,h.putS c5 fun σ σ' δ ha=>?_,St.put_len _ _ _ _ _⟩,fun σ pre k hk=>?_⟩
     ·have hr:=bd_get h hg σ σ' δ ha
      simp only [Res.ren,Res.vec.injEq,true_and] at hr ⊢
      simp only [List.map_append,List.map_take,List.map_drop,List.map_replicate,hz',hr]
     ·have:=hk σ (agree.refl _ _)
      rw [rdX_eq] at h1
      unfold stepP
      simp only [ho,ha,hT,hd,hel,rdG_ren,h1,Option.map_some,ren_vtl,emb_get,hg,hz,Res.ren]
      refine ⟨trivial,trivial,trivial,by simpa using c3,?_,?_⟩
      ·rw [List.all_map]; exact c4 ▸ (by congr 1; funext x; simp)
      ·rw [emb_put] at this
       simp only [Res.ren,List.map_append,List.map_take,List.map_drop,List.map_replicate,hz'] at this
       exact this
   ·cases hx
  ·cases hx
 ·cases hx

theorem storeD_ren {o:Oper} {l q γ:Nat} {r:Res} (h:storeD P o fr s = some (l,q,γ,r)):storeD P o (fr.ren σ pre.length) (s.emb σ pre) = some (l + pre.length,q,σ γ,r.ren σ pre.length):=by
 unfold storeD at h ⊢
 split at h
 ·rename_i T x y ho
  simp only [rdG_ren]
  split at h
  ·rename_i l1 q1 γ1 off v e1 e2
   simp only [e1,e2,Option.map_some,ren_ptr,emb_get]
   split at h
   ·rename_i γ2 cs e3
    split at h
    ·rename_i hc
     cases h
     obtain ⟨c1,c2,c3,c4,c5,c6⟩:=hc
     subst c1
     simp only [e3,Option.map_some,Res.ren,flatOk_ren,cellsV_ren,List.length_map]
     rw [if_pos ⟨trivial,c2,c3,c4,c5,c6⟩,spliceL_map]
    ·cases h
   ·cases h
  ·rename_i l1 q1 γ1 i off v e1 e2
   simp only [e1,e2,Option.map_some,ren_eptr,emb_get]
   split at h
   ·rename_i γ2 U es e3
    split at h
    ·rename_i hc
     cases h
     obtain ⟨c1,c2,c3,c4,c5,c6,c7⟩:=hc
     subst c1
     simp only [e3,Option.map_some,Res.ren,flatOk_ren,cellsV_ren,List.length_map,getD_map_ren]
     rw [if_pos ⟨trivial,c2,c3,c4,c5,c6,c7⟩,spliceL_map,← map_set_ren]
    ·cases h
   ·cases h
  ·cases h
 ·cases h

theorem xStore_D {o:Oper} {T:TypeId} {x y:Operand} {st st':XS} (ho:o.op = .store T x y) (hx:xStore P o.dst T x y st = some st'):∃ l q γ r,storeD P o st.fr st.s = some (l,q,γ,r)∧st' = { st with s:=st.s.put l q γ r }:=by
 unfold xStore at hx
 unfold storeD
 simp only [ho]
 split at hx
 ·cases hx
 ·rename_i hd
  split at hx
  ·rename_i l q γ off v h1 h2
   split at hx
   ·rename_i γ' cs hg
    split at hx
    ·rename_i hc
     simp only [Bool.and_eq_true,Nat.blt_eq,Nat.ble_eq] at hc
     obtain ⟨⟨⟨⟨⟨c1,c2⟩,c3⟩,c4⟩,c5⟩,c6⟩:=hc
     have c1:=Nat.eq_of_beq_eq_true c1
     have c4:=Nat.eq_of_beq_eq_true c4
     subst c1
     cases hx
     rw [rdX_eq] at h1 h2
     refine ⟨_,_,_,_,?_,rfl⟩
     simp only [h1,h2,hg]
     rw [if_pos ⟨trivial,c2,c3,c4,c5,hd⟩]
    ·cases hx
   ·cases hx
  ·rename_i l q γ i off v h1 h2
   split at hx
   ·rename_i γ' U es hg
    split at hx
    ·rename_i hc
     simp only [Bool.and_eq_true,Nat.blt_eq,Nat.ble_eq] at hc
     obtain ⟨⟨⟨⟨⟨⟨c1,c2⟩,c3⟩,c4⟩,c5⟩,c6⟩,c7⟩:=hc
     have c1:=Nat.eq_of_beq_eq_true c1
     have c4:=Nat.eq_of_beq_eq_true c4
     subst c1
     cases hx
     rw [rdX_eq] at h1 h2
     refine ⟨_,_,_,_,?_,rfl⟩
     simp only [h1,h2,hg]
     rw [if_pos ⟨trivial,c2,c3,c4,c5,c6,hd⟩]
    ·cases hx
   ·cases hx
  ·cases hx

/-! ### What an operation reads -/
def Level.hide (W:Places) (l:Nat) (L:Level):Level:=L.filter fun e=>!(W.contains (l,e.1))
theorem Level.get_hide (W:Places) (l:Nat):∀ (L:Level) (k:Nat),(l,k) ∉ W→(L.hide W l).get k = L.get k
 | [],k,_=>rfl
 | (j,x) :: L,k,hk=>by
  have ih:=Level.get_hide W l L k hk
  unfold Level.hide at ih ⊢
  rw [List.filter_cons]
  split
  ·simp only [Level.get]
   split
   ·rfl
   ·exact ih
  ·rename_i hc
   simp only [Bool.not_eq_true',Bool.not_eq_false,List.contains_iff_mem] at hc
   rw [ih]
   simp only [Level.get]
   rw [if_neg (fun e=>hk (by rw [e]; simpa using hc))]
theorem Level.get_hide' (W:Places) (l:Nat):∀ (L:Level) (k:Nat),(l,k) ∈ W→(L.hide W l).get k = none
 | [],k,_=>rfl
 | (j,x) :: L,k,hk=>by
  have ih:=Level.get_hide' W l L k hk
  unfold Level.hide at ih ⊢
  rw [List.filter_cons]
  split
  ·rename_i hc
   simp only [Level.get]
   rw [if_neg (fun e=>by subst e; simp [hk] at hc)]
   exact ih
  ·exact ih
def St.hide (W:Places) (s:St):St:=⟨s.up.mapIdx fun l L=>L.hide W l,s.loc.hide W s.up.length⟩
theorem St.get_hide {W:Places} {l k:Nat} (h:(l,k) ∉ W):(s.hide W).get l k = s.get l k:=by
 unfold St.get St.hide
 simp only [List.length_mapIdx]
 split
 ·rename_i e; subst e; exact Level.get_hide W _ _ _ h
 ·rw [List.getElem?_mapIdx]
  cases s.up[l]? with
  | none=>rfl
  | some L=>exact Level.get_hide W _ _ _ h
theorem St.get_hide' {W:Places} {l k:Nat} (h:(l,k) ∈ W):(s.hide W).get l k = none:=by
 unfold St.get St.hide
 simp only [List.length_mapIdx]
 split
 ·rename_i e; subst e; exact Level.get_hide' W _ _ _ h
 ·rw [List.getElem?_mapIdx]
  cases s.up[l]? with
  | none=>rfl
  | some L=>exact Level.get_hide' W _ _ _ h
theorem below_hide (W:Places):Below W (s.hide W) s:=fun l k x e=>by
 by_cases h:(l,k) ∈ W
 ·rw [St.get_hide' h] at e; cases e
 ·exact ⟨h,by rw [← St.get_hide h]; exact e⟩

def placeOf:Option V→Places
 | some (.ptr l k _ _)=>[(l,k)]
 | some (.eptr l k _ _ _)=>[(l,k)]
 | some (.vec l k _ _)=>[(l,k)]
 | some (.mp l k _)=>[(l,k)]
 | _=>[]
def placeL (one:Bool) (x:Option V):Places:=match one,x with
 | true,some (.ptr l k _ off)=>[(l,k + apK),(l,k + anyK),(l,celK k off)]
 | true,some (.eptr l k _ _ off)=>[(l,k + apK),(l,k + anyK),(l,celK k off)]
 | _,x=>placeOf x
def placeS (one:Bool) (x:Option V):Places:=match one,x with
 | true,some (.ptr l k _ off)=>[(l,k),(l,celK k off)]
 | true,some (.eptr l k _ _ off)=>[(l,k),(l,celK k off)]
 | false,some (.ptr l k _ _)=>[(l,k),(l,k + anyK)]
 | false,some (.eptr l k _ _ _)=>[(l,k),(l,k + anyK)]
 | _,_=>[]
def isPtr:Option V→Bool
 | some (.ptr ..)=>true
 | some (.eptr ..)=>true
 | _=>false
def placeV:Option V→Places
 | some (.vec l k _ _)=>[(l,k)]
 | some (.vtl l k _ _ _)=>[(l,k)]
 | some (.ptr l k _ _)=>[(l,k)]
 | _=>[]
def placeI:Option V→Places
 | some (.vec l k _ _)=>[(l,k + apK)]
 | _=>[]
def idxO (P:Program) (o:Oper) (r:Operand→Option V):Bool:=match o.op with
 | .load T x=>Nat.beq (P.cellsOf T) 1 && isPtr (r x)
 | .indexAddr _ x _=>match r x with
  | some (.vec ..)=>true
  | _=>false
 | _=>false
def placeA (r:Operand→Option V):List Operand→Places
 | [_,y]=>placeV (r y)
 | _=>[]
def readsR (P:Program) (o:Oper) (r:Operand→Option V):Places:=match o.op with
 | .load T x=>placeL (Nat.beq (P.cellsOf T) 1) (r x)
 | .indexAddr _ x _=>placeI (r x)
 | .slice _ x ..=>placeV (r x)
 | .lookup _ x ..=>placeOf (r x)
 | .call { callee:=.builtin .append,args,.. }=>placeA r args.toList
 | _=>[]
theorem elemsOf_hide {W:Places} {x:V} {es:List (List V)} (h:elemsOf s x = some es) (hr:∀ p ∈ placeV (some x),p ∉ W):elemsOf (s.hide W) x = some es:=by
 cases x with
 | vec l k g n =>
  have hn:(l,k) ∉ W:=hr _ (by simp [placeV])
  simp only [elemsOf,St.get_hide hn] at h ⊢
  exact h
 | vtl l k g i n =>
  have hn:(l,k) ∉ W:=hr _ (by simp [placeV])
  simp only [elemsOf,St.get_hide hn] at h ⊢
  exact h
 | list b es=>exact h
 | nil=>exact h
 | _=>cases h

theorem evP_hide {W:Places} {o:Oper} {r:Operand→Option V} {v:V} (h:evP P o s r = some v) (hi:idxO P o r = false) (hr:∀ p ∈ readsR P o r,p ∉ W):evP P o (s.hide W) r = some v:=by
 unfold evP at h ⊢
 split at h
 case h_4 T x ho =>
  obtain ⟨p,h1,h2⟩:=Option.bind_eq_some_iff.1 h
  obtain ⟨cs,h3,h4⟩:=Option.bind_eq_some_iff.1 h2
  have:cellsAt (s.hide W) p = some cs:=by
   cases p with
   | ptr l k g off =>
    have hb:Nat.beq (P.cellsOf T) 1 = false:=by simpa [idxO,ho,h1,isPtr] using hi
    have hn:(l,k) ∉ W:=hr _ (by simp [readsR,ho,h1,placeL,hb,placeOf])
    simp only [cellsAt,St.get_hide hn] at h3 ⊢; exact h3
   | eptr l k g i off =>
    have hb:Nat.beq (P.cellsOf T) 1 = false:=by simpa [idxO,ho,h1,isPtr] using hi
    have hn:(l,k) ∉ W:=hr _ (by simp [readsR,ho,h1,placeL,hb,placeOf])
    simp only [cellsAt,St.get_hide hn] at h3 ⊢; exact h3
   | _=>exact h3
  simp only [h1,Option.bind_some,this,h4]
 case h_10 T x i ho =>
  obtain ⟨p,h1,h2⟩:=Option.bind_eq_some_iff.1 h
  obtain ⟨q,h3,h4⟩:=Option.bind_eq_some_iff.1 h2
  have:evIndexAddr P (s.hide W) T p q = some v:=by
   unfold evIndexAddr at h4 ⊢
   split at h4
   ·exact h4
   ·rename_i e l k g n k' j e1
    simp [idxO,ho,h1] at hi
   ·exact h4
   ·exact h4
   ·exact h4
   ·cases h4
  simp only [h1,h3,Option.bind_some,this]
 case h_16 T x lo hi mx ho =>
  obtain ⟨p,h1,h2⟩:=Option.bind_eq_some_iff.1 h
  obtain ⟨q,h3,h4⟩:=Option.bind_eq_some_iff.1 h2
  obtain ⟨q',h5,h6⟩:=Option.bind_eq_some_iff.1 h4
  obtain ⟨q2,h7,h8⟩:=Option.bind_eq_some_iff.1 h6
  have:evSlice P (s.hide W) T p q q' q2 = some v:=by
   unfold evSlice at h8 ⊢
   split at h8
   case h_6 e l k g n k' i e1 =>
    have hn:(l,k) ∉ W:=hr _ (by simp [readsR,ho,h1,placeV])
    simp only [St.get_hide hn]; exact h8
   case h_7 n e l k g o e1 =>
    have hn:(l,k) ∉ W:=hr _ (by simp [readsR,ho,h1,placeV])
    simp only [St.get_hide hn]; exact h8
   all_goals exact h8
  simp only [h1,h3,h5,h7,Option.bind_some,this]
 case h_17 T x i ok ho =>
  obtain ⟨p,h1,h2⟩:=Option.bind_eq_some_iff.1 h
  obtain ⟨q,h3,h4⟩:=Option.bind_eq_some_iff.1 h2
  have:evLookup P (s.hide W) T p q ok = some v:=by
   unfold evLookup at h4 ⊢
   split at h4
   ·rename_i K E l k g e1
    have hn:(l,k) ∉ W:=hr _ (by simp [readsR,ho,h1,placeOf])
    simp only [St.get_hide hn]; exact h4
   ·cases h4
  simp only [h1,h3,Option.bind_some,this]
 all_goals exact h
theorem valD_hide {W:Places} {o:Oper} {v:V} (h:valD P g o fr s = some v) (hi:idxO P o (rdG g fr) = false) (hr:∀ p ∈ readsR P o (rdG g fr),p ∉ W):valD P g o fr (s.hide W) = some v:=by
 unfold valD at h ⊢
 split at h
 ·exact h
 ·exact h
 ·exact h
 ·exact evP_hide h hi hr

def shW (δ:Nat) (W:Places):Places:=W.map fun p=>(p.1 + δ,p.2)
theorem mem_shW {W:Places} {l k:Nat}:(l + δ,k) ∈ shW δ W ↔ (l,k) ∈ W:=by
 unfold shW
 simp only [List.mem_map,Prod.mk.injEq,Prod.exists]
 constructor
 ·rintro ⟨a,b,h,h1,h2⟩
  have:a = l:=by omega
  subst this; subst h2; exact h
 ·intro h; exact ⟨l,k,h,rfl,rfl⟩
theorem placeOf_ren (x:Option V):placeOf (x.map (V.ren σ δ)) = shW δ (placeOf x):=by
 cases x with
 | none=>rfl
 | some v=>cases v <;> simp [placeOf,shW]
theorem placeV_ren (x:Option V):placeV (x.map (V.ren σ δ)) = shW δ (placeV x):=by
 cases x with
 | none=>rfl
 | some v=>cases v <;> simp [placeV,shW]
theorem placeI_ren (x:Option V):placeI (x.map (V.ren σ δ)) = shW δ (placeI x):=by
 cases x with
 | none=>rfl
 | some v=>cases v <;> simp [placeI,shW]
theorem placeL_ren (b:Bool) (x:Option V):placeL b (x.map (V.ren σ δ)) = shW δ (placeL b x):=by
 cases b with
 | false=>exact placeOf_ren x
 | true =>
  cases x with
  | none=>rfl
  | some v=>cases v <;> simp [placeL,placeOf,shW]
theorem idx_of {W:Places} {o:Oper} {v:V} (h:valD P g o fr s = some v) (hi:idxO P o (rdG g fr) = true) (hr:∀ p ∈ readsR P o (rdG g fr),p ∉ W):IdxV P W g o fr s v:=by
 unfold idxO at hi
 split at hi
 ·rename_i T x ho
  rw [Bool.and_eq_true] at hi
  have h1:=Nat.eq_of_beq_eq_true hi.1
  unfold valD at h
  simp only [ho,evP] at h
  obtain ⟨p,hx,h⟩:=Option.bind_eq_some_iff.1 h
  obtain ⟨cs,hcs,hv⟩:=Option.bind_eq_some_iff.1 h
  have hp:=hi.2
  rw [hx] at hp
  cases p with
  | ptr l k γ off =>
   have hr':∀ p ∈ [(l,k + apK),(l,k + anyK),(l,celK k off)],p ∉ W:=fun p hp=>hr p (by simp only [readsR,ho,hx,hi.1,placeL]; exact hp)
   refine .inr ⟨T,x,_,cs,l,k,off,ho,hx,rfl,hcs,hv,by omega,hr' _ (by simp),hr' _ (by simp),fun c hc=>?_⟩
   obtain rfl:c = 0:=by omega
   exact hr' _ (by simp)
  | eptr l k γ i off =>
   have hr':∀ p ∈ [(l,k + apK),(l,k + anyK),(l,celK k off)],p ∉ W:=fun p hp=>hr p (by simp only [readsR,ho,hx,hi.1,placeL]; exact hp)
   refine .inr ⟨T,x,_,cs,l,k,off,ho,hx,rfl,hcs,hv,by omega,hr' _ (by simp),hr' _ (by simp),fun c hc=>?_⟩
   obtain rfl:c = 0:=by omega
   exact hr' _ (by simp)
  | _=>cases hp
 ·rename_i T x i ho
  split at hi
  ·rename_i l k γ n hx
   unfold valD at h
   simp only [ho,evP,hx,Option.bind_some] at h
   obtain ⟨iv,hiv,h⟩:=Option.bind_eq_some_iff.1 h
   unfold evIndexAddr at h
   split at h
   ·rename_i e1 e2; cases e2
   ·rename_i e l' k' γ' n' ki j e1 e2
    cases e2
    split at h
    ·rename_i γ2 T' es hget
     split at h
     ·rename_i hc
      obtain ⟨rfl,hc⟩:=hc
      exact .inl ⟨T,x,i,e,_,_,_,_,ki,j,T',es,ho,hx,hiv,e1,hr _ (by simp [readsR,ho,hx,placeI]),hget,hc,(Option.some.inj h).symm⟩
     ·cases h
    ·cases h
   ·rename_i e1 e2; cases e2
   ·rename_i e1 e2; cases e2
   ·rename_i e1 e2; cases e2
   ·cases h
  ·cases hi
 ·cases hi
theorem placeA_ren {r:Operand→Option V} (l:List Operand):placeA (fun x=>(r x).map (V.ren σ δ)) l = shW δ (placeA r l):=by
 unfold placeA
 split
 ·exact placeV_ren _
 ·rfl
theorem readsR_ren {o:Oper} {r:Operand→Option V}:readsR P o (fun x=>(r x).map (V.ren σ δ)) = shW δ (readsR P o r):=by
 unfold readsR
 split
 ·exact placeL_ren _ _
 ·exact placeI_ren _
 ·exact placeV_ren _
 ·exact placeOf_ren _
 ·exact placeA_ren _
 ·rfl
theorem shW_disj {W rd:Places} (h:∀ p ∈ rd,p ∉ W):∀ p ∈ shW δ rd,p ∉ shW δ W:=by
 intro p hp
 unfold shW at hp
 obtain ⟨⟨l,k⟩,hq,rfl⟩:=List.mem_map.1 hp
 exact fun hc=>h _ hq (mem_shW.1 hc)
end Go.Pg
