/- Operations of a region with all that hangs on the region alone worked out; running them one after another. No program in sight. -/
import Derived.Test.YthhdhbalenanjaaGreatQ2
namespace Go.Pg
variable {P : Program} {E : XE}

inductive IK where
  | mv (x : Operand)
  | bin (op : BinOp) (T : TypeId) (x y : Operand)
  | fa (T : TypeId) (x : Operand) (f : Nat)
  | ld (T : TypeId) (x : Operand)
  | ldz (T : TypeId) (x : Operand)
  | pick (c a b : Operand)
  | build (T : TypeId) (ps : List (Nat × Operand))
  | buildS (T : TypeId) (n : Nat) (ps : List (Nat × Operand))
  | oth (op : Op)
  | alloc (T : TypeId)
  | box (x : Operand)
  | mkM (r : Option Operand)
  | mkS (T : TypeId) (x y : Operand)
  | sto (T : TypeId) (x y : Operand)
  | upd (T : TypeId) (x i y : Operand)
  | call (own : Bool) (tk : Option Tmp) (f : Operand) (args : List Operand)
  | app (args : List Operand) (Ts : List TypeId)
  | clr (args : List Operand) (Ts : List TypeId)
  | cpy (args : List Operand) (Ts : List TypeId)

def mkO (op : Op) : Oper := { dst := none, op := op, type := 0, pos := "", after := #[], guard := none }
def tkGo (all : List Oper) : List Operand → Option Tmp
  | [] => none
  | x :: r => match x with
    | .tmp t => cond (appB all t) (some t) (tkGo all r)
    | _ => tkGo all r
def compK (all : List Oper) (o : Oper) : IK := match o.op with
  | .move x => .mv x
  | .assign x => .mv x
  | .binOp op T x y _ => .bin op T x y
  | .fieldAddr T x f => .fa T x f
  | .load T x => .ld T x
  | .pick c a b => .pick c a b
  | .build T ps => .build T ps.toList
  | .buildSlice T n ps => .buildS T n ps.toList
  | .alloc T => .alloc T
  | .box _ x => .box x
  | .makeMap _ r => .mkM r
  | .makeSlice T x y => .mkS T x y
  | .store T x y => .sto T x y
  | .mapUpdate T x i y => .upd T x i y
  | .call c => match c.callee with
    | .value f => .call (ownOf all o) (tkGo all c.args.toList) f c.args.toList
    | .builtin .append => .app c.args.toList c.argTypes.toList
    | .builtin .clear => .clr c.args.toList c.argTypes.toList
    | .builtin .copy => .cpy c.args.toList c.argTypes.toList
    | _ => .oth o.op
  | op => .oth op
structure IOp where
  g : Option (Tmp × Bool)
  d : Option Tmp
  k : IK
def comp (all : List Oper) (o : Oper) : IOp := ⟨gdL all o, o.dst, compK all o⟩
def ldzK : IK → IK
  | .ld T x => .ldz T x
  | k => k
def compZ (all : List Oper) (o : Oper) : IOp := ⟨gdL all o, o.dst, cond (zB all o) (ldzK (compK all o)) (compK all o)⟩

noncomputable def valI (d : Option Tmp) (st : XS) (r : Option V) : Option XS := match r with
  | some v => some ⟨st.c, putD st.fr d true v, st.s⟩
  | none => none
noncomputable def takeI (tk : Option Tmp) (st : XS) : XS := match tk with
  | none => st
  | some t => match (match getF st.fr t with
      | some (true, .vec l q γ n) => match st.s.get l q with
        | some (γ', .vec _ es) => Bool.rec none (some ⟨st.c, (t, true, .list false (es.take n)) :: st.fr, st.s.put l q γ .dead⟩) (Nat.beq γ' γ && Nat.ble n es.length && Nat.blt γ st.c)
        | _ => none
      | _ => none : Option XS) with
    | some st1 => st1
    | none => st
noncomputable def stepK (P : Program) (E : XE) (d : Option Tmp) (k : IK) (st : XS) : Option XS := match k with
  | .mv x => valI d st (rdX st.fr x)
  | .bin op T x y => valI d st (xBin P st.fr op T x y)
  | .fa T x f => valI d st (xFA P st.fr T x f)
  | .ld T x => valI d st (xLoad P st.fr st.s T x)
  | .ldz T x => valI d st (xLoad P st.fr st.s T x)
  | .pick c a b => valI d st (xPick st.fr c a b)
  | .build T ps => valI d st (xBuild P st.fr T ps)
  | .buildS T n ps => valI d st (xBuildS P st.fr T n ps)
  | .oth op => valI d st (evP P (mkO op) st.s (rdX st.fr))
  | .alloc T => xAlloc P d T st
  | .box x => xBox d x st
  | .mkM r => xMap d r st
  | .mkS T x y => xMake P d T x y st
  | .sto T x y => xStore P d T x y st
  | .upd T x i y => xUpd P d T x i y st
  | .call own tk f args => xCalF E own d f args (takeI tk st)
  | .app args Ts => xAppend P d args Ts st
  | .clr args Ts => xClear P d args Ts st
  | .cpy args Ts => xCopy P d args Ts st
noncomputable def opI (P : Program) (E : XE) (i : IOp) (st : XS) : Option XS := match gdX st.fr i.g with
  | some true => stepK P E i.d i.k st
  | some false => some (xSkip i.d st)
  | none => none
noncomputable def opO (P : Program) (E : XE) (i : IOp) (r : Option XS) : Option XS := match r with
  | some st => opI P E i st
  | none => none
noncomputable def runI (P : Program) (E : XE) : List IOp → Option XS → Option XS
  | [], r => r
  | i :: l, r => runI P E l (opO P E i r)

/-! ### Regions that draw their order -/
def rdsK (P : Program) (k : IK) (r : Operand → Option V) : Places := match k with
  | .ld T x => placeL (Nat.beq (P.cellsOf T) 1) (r x)
  | .app xs _ => placeA r xs
  | .oth op => readsR P (mkO op) r
  | _ => []
noncomputable def stepK0 (P : Program) (E : XE) (d : Option Tmp) (k : IK) (st : XS) : Option (XS × Places) := match k with
  | .mv x => noW (valI d st (rdX st.fr x))
  | .bin op T x y => noW (valI d st (xBin P st.fr op T x y))
  | .fa T x f => noW (valI d st (xFA P st.fr T x f))
  | .ld T x => noW (valI d st (xLoad P st.fr st.s T x))
  | .ldz T x => noW (valI d st (xLoad P st.fr st.s T x))
  | .pick c a b => noW (valI d st (xPick st.fr c a b))
  | .build T ps => noW (valI d st (xBuild P st.fr T ps))
  | .buildS T n ps => noW (valI d st (xBuildS P st.fr T n ps))
  | .oth op => noW (valI d st (evP P (mkO op) st.s (rdX st.fr)))
  | .alloc T => noW (xAlloc P d T st)
  | .box x => noW (xBox d x st)
  | .mkM r => noW (xMap d r st)
  | .mkS T x y => noW (xMake P d T x y st)
  | .sto T x y => xSto0 P d T x y st
  | .upd .. => none
  | .call own _ f args => Bool.rec (noW (xCall0 E.c0 d f args st)) (noW (xCallO E.co d f args st)) own
  | .app args Ts => xAppD P d args Ts st
  | .clr .. => none
  | .cpy .. => none
def plK : IK → Bool
  | .alloc _ | .box _ | .mkM _ | .mkS .. | .sto .. | .app .. => true
  | .call own .. => own
  | _ => false
noncomputable def opI0 (P : Program) (E : XE) (i : IOp) (st : XS) : Option (XS × Places) := match gdX st.fr i.g with
  | some true => stepK0 P E i.d i.k st
  | some false => Bool.rec (some (xSkip i.d st, [])) none (plK i.k)
  | none => none
noncomputable def opO0 (P : Program) (E : XE) (i : IOp) (r : Option (XS × Places × Places)) : Option (XS × Places × Places) := match r with
  | some (st, rd, wr) => match opI0 P E i st with
    | some (st', w) => some (st', rdsK P i.k (rdX st.fr) ++ rd, w ++ wr)
    | none => none
  | none => none
noncomputable def runP (P : Program) (E : XE) : List IOp → Option (XS × Places × Places) → Option (XS × Places × Places)
  | [], r => r
  | i :: l, r => runP P E l (opO0 P E i r)
noncomputable def endP (r : Option (XS × Places × Places)) : Option XS := match r with
  | some (st, rd, wr) => Bool.rec none (some st) (wr.all fun p => !(rd.contains p))
  | none => none
structure ISeg where
  new : List Tmp
  ph : List IOp
  sq : List IOp
noncomputable def freshI (new : List Tmp) (st : XS) : Bool := new.all fun d => (st.s.loc.get d).isNone
noncomputable def begP (new : List Tmp) (r : Option XS) : Option (XS × Places × Places) := match r with
  | some st => Bool.rec none (some (st, [], [])) (freshI new st)
  | none => none
noncomputable def runS (P : Program) (E : XE) : List ISeg → Option XS → Option XS
  | [], r => r
  | p :: S, r => runS P E S (runI P E p.sq (endP (runP P E p.ph (begP p.new r))))

def pickL (l : List Oper) (R : List Nat) : List IOp := R.filterMap fun i => (l[i]?).map (comp l)
def pickZ (l : List Oper) (R : List Nat) : List IOp := R.filterMap fun i => (l[i]?).map (compZ l)
def newsL (l : List Oper) (R : List Nat) : List Tmp := R.filterMap fun i => match l[i]? with
  | some o => cond (kA (ownOf l) o) o.dst none
  | none => none
def compS (l : List Oper) (p : List Nat × List Nat) : ISeg := ⟨newsL l p.1, pickZ l p.1, pickL l p.2⟩
def inB (l : List Oper) (S : Segs) : Bool := S.all fun p => p.1.all (fun i => Nat.blt i l.length) && p.2.all (fun i => Nat.blt i l.length)

/-! ### Regions whose calls act -/
noncomputable def valK (P : Program) (d : Option Tmp) (k : IK) (st : XS) : Option XS := match k with
  | .mv x => valI d st (rdX st.fr x)
  | .bin op T x y => valI d st (xBin P st.fr op T x y)
  | .fa T x f => valI d st (xFA P st.fr T x f)
  | .ld T x => valI d st (xLoad P st.fr st.s T x)
  | .ldz T x => valI d st (xLoad P st.fr st.s T x)
  | .pick c a b => valI d st (xPick st.fr c a b)
  | .build T ps => valI d st (xBuild P st.fr T ps)
  | .buildS T n ps => valI d st (xBuildS P st.fr T n ps)
  | .oth op => valI d st (evP P (mkO op) st.s (rdX st.fr))
  | _ => none
noncomputable def calK (E : XE) (d : Option Tmp) (k : IK) (st : XS) : Option XS := match k with
  | .call _ _ f args => cY1 E d st (rdX st.fr f) (mapO (rdX st.fr) args)
  | _ => none
noncomputable def opYI (P : Program) (E : XE) (b : Bool) (i : IOp) (st : XS) : Option XS := match gdX st.fr i.g with
  | some true => Bool.rec (backY st (valK P i.d i.k ⟨st.c, st.fr, ⟨[], []⟩⟩)) (calK E i.d i.k st) b
  | _ => none
noncomputable def runY (P : Program) (E : XE) : List (Bool × IOp) → Option XS → Option XS
  | [], r => r
  | i :: l, r => runY P E l (match r with
    | some st => opYI P E i.1 i.2 st
    | none => none)
def pickY (l : List Oper) (e : Nat) (R : List Nat) : List (Bool × IOp) := R.filterMap fun i => (l[i]?).map fun o => (Nat.beq i e, comp l o)
def compY (l : List Oper) : List (Bool × IOp) := (planY l).flatMap fun p => pickY l p.2 p.1
def okY (N : Nat) (l : List Oper) : Bool := drawOKY N (l.map (gdL l)) (planY l) l && (planY l).all fun p => p.1.all fun i => Nat.blt i l.length
inductive IR where
  | str (l : List IOp)
  | drw (S : List ISeg)
  | cls (ks : List (Nat × Nat × Nat))
def compR (P : Program) (ops : List Oper) (draw : Bool) : IR := cond draw (cond (clsB P ops) (.cls (ldsC ops)) (.drw ((segD ops).map (compS ops)))) (.str (ops.map (comp ops)))
def okR (P : Program) (ops : List Oper) (draw : Bool) : Bool := cond draw (cond (clsB P ops) true (inB ops (segD ops))) true
noncomputable def runR (P : Program) (E : XE) (i : IR) (st : XS) : Option XS := match i with
  | .str l => runI P E l (some st)
  | .drw S => runS P E S (some st)
  | .cls ks => clsR P ks (some st)
end Go.Pg
/- Running a Go function upon abstract values with open parts: only what is still wanted is kept ahead of each region; whatever comes out is a contract. No program in sight. -/
namespace Go.Pg
variable {P : Program} {σ σ' : Nat → Nat} {δ : Nat} {pre : List Level} {s : St} {fr : Fr}

abbrev Tr := Option (List Nat × List Nat)
abbrev Ann := Nat → Nat → Tr
noncomputable def trimO (a : Tr) (st : XS) : XS := match a with
  | some p => trim p.1 p.2 st
  | none => st
theorem trimO_ext {a : Tr} {st : XS} (h : Bd st) : Ext st (trimO a st) := by
  cases a with
  | none => exact ⟨Nat.le_refl _, h, rfl⟩
  | some p => exact trim_ext h
theorem trimO_c {a : Tr} {st : XS} : (trimO a st).c = st.c := by cases a <;> rfl
theorem trimO_code {n N : Nat} {ρ : Option Nat} {c : Code} {K : Exit → Fr → St → Prop} {a : Tr} {st : XS} (h : CodeOK P n N ρ c K ((trimO a st).fr.ren σ pre.length) ((trimO a st).s.emb σ pre)) : CodeOK P n N ρ c K (st.fr.ren σ pre.length) (st.s.emb σ pre) := by
  cases a with
  | none => exact h
  | some p => exact trim_code h

noncomputable def regA (P : Program) (E : XE) (a : Tr) (l : List Oper) (draw : Bool) (st : XS) : Option XS := Bool.rec (opsX P E l l (trimO a st)) (Bool.rec (drawX P E l (trimO a st)) (clsR P (ldsC l) (some (trimO a st))) (clsB P l)) draw
def isY : List Nat → Bool
  | k :: _ => Nat.beq k 777
  | [] => false
noncomputable def regB (P : Program) (E : XE) (N : Nat) (a : Tr) (l : List Oper) (draw : Bool) (us : List Nat) (st : XS) : Option XS := Bool.rec (regA P (cfU us E) a l draw st) (Bool.rec none (drawY P E N l (trimO a st)) draw) (isY us)
noncomputable def loopA (rec : Rec) (body : Code) (a : Tr) (n : Nat) : XS → Option (Exit × XS) := Nat.rec (motive := fun _ => XS → Option (Exit × XS)) (fun _ => none) (fun _ ih st => match rec body st with
  | some (.normal, st') => ih (trimO a st')
  | r => r) n
def keyR (id : Nat) (l : List Oper) : Nat := id + 1000 * l.length + 1000000 * (match l with
  | o :: _ => match o.dst with
    | some d => d
    | none => 0
  | [] => 0)
def fstR : Code → Nat
  | .region id ops _ => keyR id ops.toList
  | .seq a _ => fstR a
  | .block _ c => fstR c
  | .loop c => fstR c
  | .scope c => fstR c
  | _ => 0
def tlOf : Tr → List Nat
  | some p => p.1
  | none => []
def told0 : Nat := 1000000000000000
def rdOf : Tr → List Nat
  | some p => p.2
  | none => []
noncomputable def execStepA (P : Program) (E : XE) (A : Ann) (n N : Nat) (rec : Rec) : Rec := fun code st => match code with
  | .region id ops draw => toN (regB P E N (A N (keyR id ops.toList)) ops.toList draw (rdOf (A N (keyR id ops.toList + told0))) (ghO (tlOf (A N (keyR id ops.toList + told0))) st))
  | .loop body => loopA rec body (A N (fstR body)) n (trimO (A N (fstR body)) st)
  | c => execStep P E n N rec c st
noncomputable def execA (P : Program) (A : Ann) (kn : CF0) (n : Nat) : RecN := Nat.rec (motive := fun _ => RecN) (fun _ _ _ => none) (fun n ih N => execStepA P (envX P kn (fun _ _ _ => none) (fun _ => false) ih) A n N (ih N)) n

theorem regA_ok (hP : ProgOK P) {E : XE} (hEE : XEOK P E) {a : Tr} {id : Nat} {ops : Array Oper} {draw : Bool} {N : Nat} (hN : codeN N (.region id ops draw) = true) {st st' : XS} (hx : regA P E a ops.toList draw st = some st') (hbd : Bd st) : Ext st st' ∧
    ∀ (n : Nat) (ρ : Option Nat) (σ : Nat → Nat) (pre : List Level) (K : Exit → Fr → St → Prop), (∀ σ', agree st.c σ σ' → K .normal (st'.fr.ren σ' pre.length) (st'.s.emb σ' pre)) → CodeOK P n N ρ (.region id ops draw) K (st.fr.ren σ pre.length) (st.s.emb σ pre) := by
  obtain ⟨l⟩ := ops
  have hT := trimO_ext (a := a) hbd
  have ext : ∀ {st'}, Ext (trimO a st) st' → Ext st st' := fun h => ⟨by have := h.c; rwa [trimO_c] at this, h.bd, h.n.trans hT.n⟩
  cases draw with
  | false =>
    simp only [codeN, cond_false, Bool.and_eq_true] at hN
    have hx : opsX P E l l (trimO a st) = some st' := hx
    obtain ⟨hE, hs⟩ := opsX_ok hEE hT.bd hx
    refine ⟨ext hE, fun n ρ σ pre K hk => trimO_code (a := a) ?_⟩
    exact code_region (l.map (gdL l)) hN.1 (gsOK_of (guardsB_spec hN.2)) (hs σ pre _ fun σ' ha => hk σ' (by rwa [trimO_c] at ha))
  | true =>
    simp only [codeN, cond_true] at hN
    cases hc : clsB P l with
    | true =>
      have hx : (Bool.rec (drawX P E l (trimO a st)) (clsR P (ldsC l) (some (trimO a st))) (clsB P l) : Option XS) = some st' := hx
      rw [hc] at hx
      obtain ⟨hE, hs⟩ := clsX_ok (id := id) hP hN hc hx hT.bd
      exact ⟨ext hE, fun n ρ σ pre K hk => trimO_code (a := a) (hs n ρ σ pre K fun σ' ha => hk σ' (by rwa [trimO_c] at ha))⟩
    | false =>
    have hx : (Bool.rec (drawX P E l (trimO a st)) (clsR P (ldsC l) (some (trimO a st))) (clsB P l) : Option XS) = some st' := hx
    rw [hc] at hx
    obtain ⟨hE, hs⟩ := drawX_ok (id := id) hP hEE hN hx hT.bd
    exact ⟨ext hE, fun n ρ σ pre K hk => trimO_code (a := a) (hs n ρ σ pre K fun σ' ha => hk σ' (by rwa [trimO_c] at ha))⟩

theorem regB_ok (hP : ProgOK P) {E : XE} (hEE : XEOK P E) {a : Tr} {us : List Nat} {id : Nat} {ops : Array Oper} {draw : Bool} {N : Nat} (hN : codeN N (.region id ops draw) = true) {st st' : XS} (hx : regB P E N a ops.toList draw us st = some st') (hbd : Bd st) : Ext st st' ∧
    ∀ (n : Nat) (ρ : Option Nat) (σ : Nat → Nat) (pre : List Level) (K : Exit → Fr → St → Prop), (∀ σ', agree st.c σ σ' → K .normal (st'.fr.ren σ' pre.length) (st'.s.emb σ' pre)) → CodeOK P n N ρ (.region id ops draw) K (st.fr.ren σ pre.length) (st.s.emb σ pre) := by
  unfold regB at hx
  cases hy : isY us with
  | false => rw [hy] at hx; exact regA_ok hP (cfU_ok hEE _) hN hx hbd
  | true =>
    rw [hy] at hx
    cases draw with
    | false => cases hx
    | true =>
      have hx : drawY P E N ops.toList (trimO a st) = some st' := hx
      have hT := trimO_ext (a := a) hbd
      obtain ⟨hE, hs⟩ := drawY_ok hP hEE (id := id) hx hT.bd
      refine ⟨⟨by have := hE.c; rwa [trimO_c] at this, hE.bd, hE.n.trans hT.n⟩, fun n ρ σ pre K hk => trimO_code (a := a) ?_⟩
      exact hs n ρ σ pre K fun σ' ha => hk σ' (by rwa [trimO_c] at ha)
theorem loopA_ok {N : Nat} {rec : Rec} (hrec : CodeX P N rec) {body : Code} {a : Tr} (hN : codeN N body = true) (m : Nat) {st st' : XS} {e : Exit} (hx : loopA rec body a m (trimO a st) = some (e, st')) (hbd : Bd st) : Ext st st' ∧ (∀ l, e ≠ .goto l) ∧
    ∀ (n : Nat) (ρ : Option Nat) (σ : Nat → Nat) (pre : List Level) (K : Exit → Fr → St → Prop), (ρ = none ∨ flatC body = true) → (∀ σ', agree st.c σ σ' → K e (st'.fr.ren σ' pre.length) (st'.s.emb σ' pre)) → CodeOK P n N ρ (.loop body) K (st.fr.ren σ pre.length) (st.s.emb σ pre) := by
  have up : ∀ {st st' : XS}, Bd st → Ext (trimO a st) st' → Ext st st' := fun hbd h => ⟨by have := h.c; rwa [trimO_c] at this, h.bd, h.n.trans (trimO_ext hbd).n⟩
  have ext : ∀ (m : Nat) {st : XS}, loopA rec body a m (trimO a st) = some (e, st') → Bd st → Ext st st' ∧ (∀ l, e ≠ .goto l) := by
    intro m
    induction m with
    | zero => intro st hx _; cases hx
    | succ m ih =>
      intro st hx hbd
      have hx : (match rec body (trimO a st) with
        | some (.normal, st') => loopA rec body a m (trimO a st')
        | r => r) = some (e, st') := hx
      have hT := trimO_ext (a := a) hbd
      split at hx
      · rename_i st1 h1
        obtain ⟨hE, _, _⟩ := hrec _ _ _ _ h1 hT.bd hN
        obtain ⟨hE', hg⟩ := ih hx hE.bd
        exact ⟨up hbd ⟨Nat.le_trans hE.c hE'.c, hE'.bd, hE'.n.trans hE.n⟩, hg⟩
      · obtain ⟨hE, hg, _⟩ := hrec _ _ _ _ hx hT.bd hN
        exact ⟨up hbd ⟨hE.c, hE.bd, hE.n⟩, hg⟩
  obtain ⟨hE, hg⟩ := ext m hx hbd
  refine ⟨hE, hg, fun n ρ σ pre K hρ hk => ?_⟩
  refine code_loop (fun m fr s => ∃ (st : XS) (σ : Nat → Nat), fr = st.fr.ren σ pre.length ∧ s = st.s.emb σ pre ∧ Bd st ∧ loopA rec body a m (trimO a st) = some (e, st') ∧ ∀ σ', agree st.c σ σ' → K e (st'.fr.ren σ' pre.length) (st'.s.emb σ' pre)) m ⟨st, σ, rfl, rfl, hbd, hx, hk⟩ ?_
  rintro m fr s ⟨st, σ, rfl, rfl, hbd, hx, hk⟩
  cases m with
  | zero => cases hx
  | succ m =>
    have hx : (match rec body (trimO a st) with
      | some (.normal, st') => loopA rec body a m (trimO a st')
      | r => r) = some (e, st') := hx
    have hT := trimO_ext (a := a) hbd
    refine trimO_code (a := a) ?_
    split at hx
    · rename_i st1 h1
      obtain ⟨hE, _, hC⟩ := hrec _ _ _ _ h1 hT.bd hN
      refine hC n ρ σ pre _ hρ fun σ' ha => ?_
      rw [trimO_c] at ha
      exact ⟨m, Nat.lt_succ_self _, st1, σ', rfl, rfl, hE.bd, hx, fun σ'' ha' => hk σ'' (ha.trans ha' (by have := hE.c; rwa [trimO_c] at this))⟩
    · rename_i hne
      obtain ⟨hE, hg, hC⟩ := hrec _ _ _ _ hx hT.bd hN
      refine hC n ρ σ pre _ hρ fun σ' ha => ?_
      rw [trimO_c] at ha
      have := hk σ' ha
      cases e with
      | normal => exact absurd hx (hne st')
      | _ => exact this

theorem execStepA_ok (hP : ProgOK P) {E : XE} (hEE : XEOK P E) {A : Ann} {N : Nat} {rec : Rec} (hrec : CodeX P N rec) (m : Nat) : CodeX P N (execStepA P E A m N rec) := by
  intro code st e st' hx hbd hN
  unfold execStepA at hx
  split at hx
  · rename_i id ops draw
    obtain ⟨rfl, hx2⟩ := toN_some hx
    have hT := ghO_ext (tlOf (A N (keyR id ops.toList + told0))) hbd
    obtain ⟨hE, hs⟩ := regB_ok hP hEE hN hx2 hT.bd
    exact ⟨⟨Nat.le_trans hT.c hE.c, hE.bd, hE.n.trans hT.n⟩, (by intro l h; cases h), fun n ρ σ pre K _ hk => ghO_code _ (hs n ρ σ pre K fun σ' ha => hk σ' (by rwa [ghO_c] at ha))⟩
  · rename_i body
    have hN : codeN N body = true := hN
    obtain ⟨h1, h2, h3⟩ := loopA_ok hrec hN m hx hbd
    exact ⟨h1, h2, fun n ρ σ pre K hρ hk => h3 n ρ σ pre K hρ hk⟩
  · exact execStep_ok hP hEE hrec m _ _ _ _ hx hbd hN

theorem execA_ok (hP : ProgOK P) {A : Ann} {kn : CF0} (hkn : CallX0 P kn) : ∀ n, RecX P (execA P A kn n)
  | 0 => fun N code st e st' hx => by cases hx
  | n + 1 => fun N => by
    have ih := execA_ok hP (A := A) hkn n
    exact execStepA_ok hP ⟨callS_ok hP hkn ih, yldX_ok hP ih, callW_ok hP hkn ih, callO_ok hP hkn (ko := fun _ _ _ => none) (fun _ _ _ _ h => by cases h) ih⟩ (ih N) n

/-! ### Equations -/
section
variable {A : Ann} {kn : CF0} {n N : Nat} {st : XS}
noncomputable abbrev envA (P : Program) (A : Ann) (kn : CF0) (n : Nat) : XE := envX P kn (fun _ _ _ => none) (fun _ => false) (execA P A kn n)
theorem exec_seq (a b : Code) : execA P A kn (n + 1) N (.seq a b) st = xSeq (execA P A kn n N) b (execA P A kn n N a st) := rfl
theorem exec_cond (c : Operand) (a b : Code) : execA P A kn (n + 1) N (.cond c a b) st = xCond (execA P A kn n N) a b st (rdX st.fr c) := rfl
theorem exec_block (id : Nat) (b : Code) : execA P A kn (n + 1) N (.block id b) st = xBlock id (execA P A kn n N b st) := rfl
theorem exec_loop (b : Code) : execA P A kn (n + 1) N (.loop b) st = loopA (execA P A kn n N) b (A N (fstR b)) n (trimO (A N (fstR b)) st) := rfl
theorem exec_skip : execA P A kn (n + 1) N .skip st = some (.normal, st) := rfl
theorem exec_exit (id : Nat) : execA P A kn (n + 1) N (.exit id) st = some (.exit id, st) := rfl
theorem exec_ret : execA P A kn (n + 1) N .ret st = some (.ret, st) := rfl
theorem exec_scope (b : Code) : execA P A kn (n + 1) N (.scope b) st = execA P A kn n N b st := rfl
theorem fstR_seq (a b : Code) : fstR (.seq a b) = fstR a := rfl
theorem fstR_block (id : Nat) (b : Code) : fstR (.block id b) = fstR b := rfl
theorem fstR_loop (b : Code) : fstR (.loop b) = fstR b := rfl
theorem xSeq_normal (rec : Rec) (b : Code) : xSeq rec b (some (.normal, st)) = rec b st := rfl
theorem xSeq_ret (rec : Rec) (b : Code) : xSeq rec b (some (.ret, st)) = some (.ret, st) := rfl
theorem xSeq_exit (rec : Rec) (b : Code) (i : Nat) : xSeq rec b (some (.exit i, st)) = some (.exit i, st) := rfl
theorem xSeq_ite (rec : Rec) (b : Code) (c : Prop) [Decidable c] (x y : Option (Exit × XS)) : xSeq rec b (if c then x else y) = if c then xSeq rec b x else xSeq rec b y := by split <;> rfl
theorem xBlock_normal (id : Nat) : xBlock id (some (.normal, st)) = some (.normal, st) := rfl
theorem xBlock_ret (id : Nat) : xBlock id (some (.ret, st)) = some (.ret, st) := rfl
theorem xBlock_exit (id i : Nat) : xBlock id (some (.exit i, st)) = if i = id then some (.normal, st) else some (.exit i, st) := by
  show (Bool.rec _ _ (Nat.beq i id) : Option (Exit × XS)) = _
  by_cases h : i = id
  · subst h; simp
  · have : Nat.beq i id = false := by
      cases hb : Nat.beq i id with
      | false => rfl
      | true => exact absurd (Nat.eq_of_beq_eq_true hb) h
    simp [h, this]
theorem xBlock_ite (id : Nat) (c : Prop) [Decidable c] (x y : Option (Exit × XS)) : xBlock id (if c then x else y) = if c then xBlock id x else xBlock id y := by split <;> rfl
def isReg : Code → Bool
  | .region .. => true
  | _ => false
def opsOf : Code → List Oper
  | .region _ ops _ => ops.toList
  | _ => []
def drawOf : Code → Bool
  | .region _ _ d => d
  | _ => false
noncomputable def finX (P : Program) (rs : List ResultVar) (r : Option (Exit × XS)) : Option V := match r with
  | some (.ret, st) => finV st.s (resV P rs st.fr st.s)
  | some (.normal, st) => finV st.s (resV P rs st.fr st.s)
  | _ => none
where finV (s : St) (r : Option V) : Option V := match r with
  | some v => match closeX s 4 v with
    | some r' => Bool.rec none (some r') (closedV 9 r')
    | none => none
  | none => none
theorem finX_ite (rs : List ResultVar) (c : Prop) [Decidable c] (x y : Option (Exit × XS)) : finX P rs (if c then x else y) = if c then finX P rs x else finX P rs y := by split <;> rfl
end
def codeAt : Code → List Nat → Code
  | c, [] => c
  | .seq a b, i :: p => bif Nat.beq i 0 then codeAt a p else codeAt b p
  | .cond _ a b, i :: p => bif Nat.beq i 0 then codeAt a p else codeAt b p
  | .block _ a, _ :: p => codeAt a p
  | .loop a, _ :: p => codeAt a p
  | .scope a, _ :: p => codeAt a p
  | .rangeFunc _ _ a b, i :: p => bif Nat.beq i 0 then codeAt a p else codeAt b p
  | c, _ => c
def bodyOf (fn : Func) : Code := match fn.body with
  | some c => c
  | none => .skip
end Go.Pg
/- Equations by which open walks are worked out. No program in sight. -/
namespace Go.Pg
variable {P : Program} {E : XE} {st : XS} {fr : Fr} {s : St}

@[simp] theorem runI_nil (r : Option XS) : runI P E [] r = r := rfl
@[simp] theorem runI_cons (i : IOp) (l : List IOp) (r : Option XS) : runI P E (i :: l) r = runI P E l (opO P E i r) := rfl
@[simp] theorem opO_some (i : IOp) : opO P E i (some st) = opI P E i st := rfl
@[simp] theorem opO_none (i : IOp) : opO P E i none = none := rfl
@[simp] theorem opO_ite (i : IOp) (c : Prop) [Decidable c] (x y : Option XS) : opO P E i (if c then x else y) = if c then opO P E i x else opO P E i y := by split <;> rfl
@[simp] theorem runI_ite (l : List IOp) (c : Prop) [Decidable c] (x y : Option XS) : runI P E l (if c then x else y) = if c then runI P E l x else runI P E l y := by split <;> rfl
noncomputable def gI (P : Program) (E : XE) (d : Option Tmp) (k : IK) (st : XS) (w : Bool) (r : Option (Bool × V)) : Option XS := match r with
  | some (c, .bool b) => Bool.rec (some (xSkip d st)) (stepK P E d k st) (c && (b == w))
  | _ => none
@[simp] theorem opI_free (d : Option Tmp) (k : IK) : opI P E ⟨none, d, k⟩ st = stepK P E d k st := rfl
@[simp] theorem opI_guard (t : Tmp) (w : Bool) (d : Option Tmp) (k : IK) : opI P E ⟨some (t, w), d, k⟩ st = gI P E d k st w (getF st.fr t) := by
  show (match (match getF st.fr t with | some (c, .bool b) => some (c && (b == w)) | _ => none : Option Bool) with
    | some true => stepK P E d k st
    | some false => some (xSkip d st)
    | none => none) = _
  unfold gI
  cases getF st.fr t with
  | none => rfl
  | some p =>
    obtain ⟨c, v⟩ := p
    cases v with
    | bool b => cases h : (c && (b == w)) <;> simp [h]
    | _ => rfl
@[simp] theorem gI_tt (d : Option Tmp) (k : IK) : gI P E d k st true (some (true, .bool true)) = stepK P E d k st := rfl
@[simp] theorem gI_tf (d : Option Tmp) (k : IK) : gI P E d k st true (some (true, .bool false)) = some (xSkip d st) := rfl
@[simp] theorem gI_ft (d : Option Tmp) (k : IK) : gI P E d k st false (some (true, .bool true)) = some (xSkip d st) := rfl
@[simp] theorem gI_ff (d : Option Tmp) (k : IK) : gI P E d k st false (some (true, .bool false)) = stepK P E d k st := rfl
@[simp] theorem gI_no (d : Option Tmp) (k : IK) (w b : Bool) : gI P E d k st w (some (false, .bool b)) = some (xSkip d st) := rfl
@[simp] theorem xSkip_eq (d : Tmp) (c : Nat) (fr : Fr) (s : St) : xSkip (some d) ⟨c, fr, s⟩ = ⟨c, (d, false, .bool false) :: fr, s⟩ := rfl
@[simp] theorem xSkip_no (c : Nat) (fr : Fr) (s : St) : xSkip none ⟨c, fr, s⟩ = ⟨c, fr, s⟩ := rfl

@[simp] theorem getF_nil (k : Nat) : getF [] k = none := rfl
@[simp] theorem getF_cons (j : Nat) (x : Bool × V) (fr : Fr) (k : Nat) : getF ((j, x) :: fr) k = if k = j then some x else getF fr k := by rw [getF_eq, getF_eq]; rfl
@[simp] theorem level_cons (j : Nat) (x : Nat × Res) (L : Level) (k : Nat) : Level.get ((j, x) :: L) k = if k = j then some x else L.get k := rfl
def rdT : Option (Bool × V) → Option V
  | some (true, v) => some v
  | _ => none
@[simp] theorem rdT_some (v : V) : rdT (some (true, v)) = some v := rfl
@[simp] theorem rdT_false (v : V) : rdT (some (false, v)) = none := rfl
@[simp] theorem rdT_none : rdT none = none := rfl
@[simp] theorem rdX_tmp (t : Tmp) : rdX fr (.tmp t) = rdT (getF fr t) := by
  show (match getF fr t with
    | some (true, v) => some v
    | _ => none) = _
  cases getF fr t with
  | none => rfl
  | some p => obtain ⟨c, v⟩ := p; cases c <;> rfl
@[simp] theorem rdX_const (v : Value) : rdX fr (.const v) = constV v := rfl
@[simp] theorem rdX_func (f : FuncId) : rdX fr (.func f) = some (.fn f [] []) := rfl
@[simp] theorem rdC_tmp (t : Tmp) : rdC fr (.tmp t) = getF fr t := rfl
@[simp] theorem rdC_bool (b : Bool) : rdC fr (.const (.bool b)) = some (true, .bool b) := rfl
@[simp] theorem constV_int (k : IntKind) (n : Int) : constV (.int k n) = some (.int k n) := rfl
@[simp] theorem constV_bool (b : Bool) : constV (.bool b) = some (.bool b) := rfl
@[simp] theorem constV_nil : constV (.slice none 0 0) = some .nil := rfl

@[simp] theorem valI_some (d : Tmp) (c : Nat) (fr : Fr) (s : St) (v : V) : valI (some d) ⟨c, fr, s⟩ (some v) = some ⟨c, (d, true, v) :: fr, s⟩ := rfl
@[simp] theorem valI_no (c : Nat) (fr : Fr) (s : St) (v : V) : valI none ⟨c, fr, s⟩ (some v) = some ⟨c, fr, s⟩ := rfl
@[simp] theorem valI_none (d : Option Tmp) : valI d st none = none := rfl
@[simp] theorem valI_ite (d : Option Tmp) (c : Prop) [Decidable c] (x y : Option V) : valI d st (if c then x else y) = if c then valI d st x else valI d st y := by split <;> rfl

section
variable (d : Option Tmp) (c : Nat)
@[simp] theorem stepK_mv (x : Operand) : stepK P E d (.mv x) ⟨c, fr, s⟩ = valI d ⟨c, fr, s⟩ (rdX fr x) := rfl
def bin2 (P : Program) (op : BinOp) (T : TypeId) : Option V → Option V → Option V
  | some a, some b => evBin P op T a b
  | _, _ => none
@[simp] theorem bin2_some (op : BinOp) (T : TypeId) (a b : V) : bin2 P op T (some a) (some b) = evBin P op T a b := rfl
@[simp] theorem stepK_bin (op : BinOp) (T : TypeId) (x y : Operand) : stepK P E d (.bin op T x y) ⟨c, fr, s⟩ = valI d ⟨c, fr, s⟩ (bin2 P op T (rdX fr x) (rdX fr y)) := by
  show valI d _ (xBin P fr op T x y) = _
  unfold xBin bin2
  cases rdX fr x <;> cases rdX fr y <;> rfl
def fa1 (P : Program) (T : TypeId) (f : Nat) : Option V → Option V
  | some p => evFieldAddr P T p f
  | none => none
@[simp] theorem fa1_some (T : TypeId) (f : Nat) (p : V) : fa1 P T f (some p) = evFieldAddr P T p f := rfl
@[simp] theorem stepK_fa (T : TypeId) (x : Operand) (f : Nat) : stepK P E d (.fa T x f) ⟨c, fr, s⟩ = valI d ⟨c, fr, s⟩ (fa1 P T f (rdX fr x)) := by
  show valI d _ (xFA P fr T x f) = _
  unfold xFA fa1
  cases rdX fr x <;> rfl
def wh1 (P : Program) (T : TypeId) : Option (List V) → Option V
  | some cs => whole P T cs
  | none => none
@[simp] theorem wh1_some (T : TypeId) (cs : List V) : wh1 P T (some cs) = whole P T cs := rfl
def ld1 (P : Program) (s : St) (T : TypeId) : Option V → Option V
  | some p => wh1 P T (cellsAt s p)
  | none => none
@[simp] theorem ld1_some (T : TypeId) (p : V) : ld1 P s T (some p) = wh1 P T (cellsAt s p) := rfl
@[simp] theorem stepK_ld (T : TypeId) (x : Operand) : stepK P E d (.ld T x) ⟨c, fr, s⟩ = valI d ⟨c, fr, s⟩ (ld1 P s T (rdX fr x)) := by
  show valI d _ (xLoad P fr s T x) = _
  unfold xLoad ld1
  cases rdX fr x with
  | none => rfl
  | some p => unfold wh1; cases cellsAt s p <;> rfl
noncomputable def pk3 : Option V → Option (Bool × V) → Option (Bool × V) → Option V
  | some (.bool c), some (ca, .bool a), some (cb, .bool b) => Bool.rec (Bool.rec none (some (.bool b)) cb) (Bool.rec none (some (.bool a)) ca) c
  | _, _, _ => none
@[simp] theorem pk3_true (a cb b : Bool) : pk3 (some (.bool true)) (some (true, .bool a)) (some (cb, .bool b)) = some (.bool a) := rfl
@[simp] theorem pk3_false (ca a b : Bool) : pk3 (some (.bool false)) (some (ca, .bool a)) (some (true, .bool b)) = some (.bool b) := rfl
@[simp] theorem pk3_both (c a b : Bool) : pk3 (some (.bool c)) (some (true, .bool a)) (some (true, .bool b)) = some (.bool (if c then a else b)) := by cases c <;> rfl
@[simp] theorem stepK_pick (x y z : Operand) : stepK P E d (.pick x y z) ⟨c, fr, s⟩ = valI d ⟨c, fr, s⟩ (pk3 (rdX fr x) (rdC fr y) (rdC fr z)) := rfl
def parts2 (f : Operand → Option V) : List (Nat × Operand) → Option (List (Nat × V)) := partsM f
def ba2 : Option V → Nat → Option (List (Nat × V)) → Option (List (Nat × V))
  | some v, i, some l => some ((i, v) :: l)
  | _, _, _ => none
@[simp] theorem ba2_some (v : V) (i : Nat) (l : List (Nat × V)) : ba2 (some v) i (some l) = some ((i, v) :: l) := rfl
@[simp] theorem partsM_nil (r : Operand → Option V) : partsM r [] = some [] := rfl
@[simp] theorem partsM_cons (r : Operand → Option V) (i : Nat) (x : Operand) (l : List (Nat × Operand)) : partsM r ((i, x) :: l) = ba2 (r x) i (partsM r l) := by
  simp only [partsM]
  unfold ba2
  cases r x <;> cases partsM r l <;> rfl
def bd1 (P : Program) (T : TypeId) : Option (List (Nat × V)) → Option V
  | some l => evBuild P T l
  | none => none
@[simp] theorem bd1_some (T : TypeId) (l : List (Nat × V)) : bd1 P T (some l) = evBuild P T l := rfl
@[simp] theorem stepK_build (T : TypeId) (ps : List (Nat × Operand)) : stepK P E d (.build T ps) ⟨c, fr, s⟩ = valI d ⟨c, fr, s⟩ (bd1 P T (partsM (rdX fr) ps)) := by
  show valI d _ (xBuild P fr T ps) = _
  unfold xBuild bd1
  cases partsM (rdX fr) ps <;> rfl
def bs1 (P : Program) (T : TypeId) (n : Nat) : Option (List (Nat × V)) → Option V
  | some l => evBuildSlice P T n l
  | none => none
@[simp] theorem bs1_some (T : TypeId) (n : Nat) (l : List (Nat × V)) : bs1 P T n (some l) = evBuildSlice P T n l := rfl
@[simp] theorem stepK_buildS (T : TypeId) (n : Nat) (ps : List (Nat × Operand)) : stepK P E d (.buildS T n ps) ⟨c, fr, s⟩ = valI d ⟨c, fr, s⟩ (bs1 P T n (partsM (rdX fr) ps)) := by
  show valI d _ (xBuildS P fr T n ps) = _
  unfold xBuildS bs1
  cases partsM (rdX fr) ps <;> rfl
@[simp] theorem stepK_oth (op : Op) : stepK P E d (.oth op) ⟨c, fr, s⟩ = valI d ⟨c, fr, s⟩ (evP P (mkO op) s (rdX fr)) := rfl
def al1 (d : Tmp) (c : Nat) (fr : Fr) (s : St) : Option (List V) → Option XS
  | some cs => some ⟨c + 1, (d, true, .ptr s.up.length d c 0) :: fr, s.put s.up.length d c (.box cs)⟩
  | none => none
@[simp] theorem al1_some (d : Tmp) (cs : List V) : al1 d c fr s (some cs) = some ⟨c + 1, (d, true, .ptr s.up.length d c 0) :: fr, s.put s.up.length d c (.box cs)⟩ := rfl
@[simp] theorem stepK_alloc (d : Tmp) (T : TypeId) : stepK P E (some d) (.alloc T) ⟨c, fr, s⟩ = al1 d c fr s (zeroC P T) := by
  show xAlloc P (some d) T _ = _
  unfold xAlloc al1
  cases zeroC P T <;> rfl
noncomputable def bx1 (d : Tmp) (c : Nat) (fr : Fr) (s : St) : Option V → Option XS
  | some v => Bool.rec none (some ⟨c + 1, (d, true, .ptr s.up.length d c 0) :: fr, s.put s.up.length d c (.box (cellsV v))⟩) (flatOk v)
  | none => none
@[simp] theorem bx1_int (d : Tmp) (k : IntKind) (n : Int) : bx1 d c fr s (some (.int k n)) = some ⟨c + 1, (d, true, .ptr s.up.length d c 0) :: fr, s.put s.up.length d c (.box [.int k n])⟩ := rfl
@[simp] theorem bx1_bool (d : Tmp) (b : Bool) : bx1 d c fr s (some (.bool b)) = some ⟨c + 1, (d, true, .ptr s.up.length d c 0) :: fr, s.put s.up.length d c (.box [.bool b])⟩ := rfl
@[simp] theorem bx1_agg (d : Tmp) (cs : List V) : bx1 d c fr s (some (.agg cs)) = some ⟨c + 1, (d, true, .ptr s.up.length d c 0) :: fr, s.put s.up.length d c (.box cs)⟩ := rfl
@[simp] theorem bx1_list (d : Tmp) (b : Bool) (es : List (List V)) : bx1 d c fr s (some (.list b es)) = some ⟨c + 1, (d, true, .ptr s.up.length d c 0) :: fr, s.put s.up.length d c (.box [.list b es])⟩ := rfl
@[simp] theorem bx1_nil (d : Tmp) : bx1 d c fr s (some .nil) = some ⟨c + 1, (d, true, .ptr s.up.length d c 0) :: fr, s.put s.up.length d c (.box [.nil])⟩ := rfl
@[simp] theorem bx1_vec (d : Tmp) (l k g n : Nat) : bx1 d c fr s (some (.vec l k g n)) = some ⟨c + 1, (d, true, .ptr s.up.length d c 0) :: fr, s.put s.up.length d c (.box [.vec l k g n])⟩ := rfl
@[simp] theorem bx1_mp (d : Tmp) (l k g : Nat) : bx1 d c fr s (some (.mp l k g)) = some ⟨c + 1, (d, true, .ptr s.up.length d c 0) :: fr, s.put s.up.length d c (.box [.mp l k g])⟩ := rfl
@[simp] theorem stepK_box (d : Tmp) (x : Operand) : stepK P E (some d) (.box x) ⟨c, fr, s⟩ = bx1 d c fr s (rdX fr x) := by
  show xBox (some d) x _ = _
  unfold xBox bx1
  cases rdX fr x <;> rfl
def st3 (γ : Nat) (P : Program) (T : TypeId) (c : Nat) (fr : Fr) (s : St) (l q off : Nat) (v : V) : Option (Nat × Res) → Option XS
  | some (γ', .box cs) => if γ' = γ ∧ flatOk v = true ∧ 0 < P.cellsOf T ∧ (cellsV v).length = P.cellsOf T ∧ off + P.cellsOf T ≤ cs.length ∧ γ < c then some ⟨c, fr, s.put l q γ (.box (spliceL cs off (cellsV v)))⟩ else none
  | _ => none
def st4 (γ : Nat) (P : Program) (T : TypeId) (c : Nat) (fr : Fr) (s : St) (l q i off : Nat) (v : V) : Option (Nat × Res) → Option XS
  | some (γ', .vec U es) => if γ' = γ ∧ flatOk v = true ∧ 0 < P.cellsOf T ∧ (cellsV v).length = P.cellsOf T ∧ i < es.length ∧ off + P.cellsOf T ≤ (es.getD i []).length ∧ γ < c then some ⟨c, fr, s.put l q γ (.vec U (es.set i (spliceL (es.getD i []) off (cellsV v))))⟩ else none
  | _ => none
def st2 (P : Program) (T : TypeId) (c : Nat) (fr : Fr) (s : St) : Option V → Option V → Option XS
  | some (.ptr l q γ off), some v => st3 γ P T c fr s l q off v (s.get l q)
  | some (.eptr l q γ i off), some v => st4 γ P T c fr s l q i off v (s.get l q)
  | _, _ => none
@[simp] theorem st2_ptr (T : TypeId) (l q γ off : Nat) (v : V) : st2 P T c fr s (some (.ptr l q γ off)) (some v) = st3 γ P T c fr s l q off v (s.get l q) := rfl
@[simp] theorem st2_eptr (T : TypeId) (l q γ i off : Nat) (v : V) : st2 P T c fr s (some (.eptr l q γ i off)) (some v) = st4 γ P T c fr s l q i off v (s.get l q) := rfl
@[simp] theorem st3_box (γ γ' : Nat) (T : TypeId) (l q off : Nat) (v : V) (cs : List V) : st3 γ P T c fr s l q off v (some (γ', .box cs)) = if γ' = γ ∧ flatOk v = true ∧ 0 < P.cellsOf T ∧ (cellsV v).length = P.cellsOf T ∧ off + P.cellsOf T ≤ cs.length ∧ γ < c then some ⟨c, fr, s.put l q γ (.box (spliceL cs off (cellsV v)))⟩ else none := rfl
@[simp] theorem st4_vec (γ γ' : Nat) (T : TypeId) (l q i off : Nat) (v : V) (U : TypeId) (es : List (List V)) : st4 γ P T c fr s l q i off v (some (γ', .vec U es)) = if γ' = γ ∧ flatOk v = true ∧ 0 < P.cellsOf T ∧ (cellsV v).length = P.cellsOf T ∧ i < es.length ∧ off + P.cellsOf T ≤ (es.getD i []).length ∧ γ < c then some ⟨c, fr, s.put l q γ (.vec U (es.set i (spliceL (es.getD i []) off (cellsV v))))⟩ else none := rfl
theorem xSto_eq (T : TypeId) (x y : Operand) : xStore P none T x y ⟨c, fr, s⟩ = st2 P T c fr s (rdX fr x) (rdX fr y) := by
  unfold xStore
  simp only
  cases rdX fr x with
  | none => rfl
  | some p =>
    cases rdX fr y with
    | none => cases p <;> rfl
    | some v =>
      cases p with
      | ptr l q γ off =>
        simp only [st2_ptr]
        cases s.get l q with
        | none => rfl
        | some z =>
          obtain ⟨γ', r⟩ := z
          cases r with
          | box cs =>
            simp only [st3_box, Bool.and_eq_true, Nat.blt_eq, Nat.ble_eq, Nat.beq_eq, and_assoc]
          | _ => rfl
      | eptr l q γ i off =>
        simp only [st2_eptr]
        cases s.get l q with
        | none => rfl
        | some z =>
          obtain ⟨γ', r⟩ := z
          cases r with
          | vec U es =>
            simp only [st4_vec, Bool.and_eq_true, Nat.blt_eq, Nat.ble_eq, Nat.beq_eq, and_assoc]
          | _ => rfl
      | _ => rfl
@[simp] theorem stepK_sto (T : TypeId) (x y : Operand) : stepK P E none (.sto T x y) ⟨c, fr, s⟩ = st2 P T c fr s (rdX fr x) (rdX fr y) := xSto_eq c T x y

/-! ### Appends -/
noncomputable def apW (P : Program) (e : TypeId) (d c : Nat) (fr : Fr) (s : St) (l q γ n : Nat) (ys : List (List V)) : Option (Nat × Res) → Option XS
  | some (γ', .vec W es) => if γ' = γ ∧ W = e ∧ n = es.length ∧ es.all (fun y => y.length == P.cellsOf e) = true ∧ appOK P e es.length ys = true then
      some ⟨c + 1, (d, true, .vec l q c (es.length + ys.length)) :: fr, s.put l q c (.vec e (es ++ ys))⟩ else none
  | _ => none
@[simp] theorem apW_some (e : TypeId) (d : Nat) (l q γ γ' n : Nat) (ys es : List (List V)) (W : TypeId) : apW P e d c fr s l q γ n ys (some (γ', .vec W es)) = if γ' = γ ∧ W = e ∧ n = es.length ∧ es.all (fun y => y.length == P.cellsOf e) = true ∧ appOK P e es.length ys = true then
      some ⟨c + 1, (d, true, .vec l q c (es.length + ys.length)) :: fr, s.put l q c (.vec e (es ++ ys))⟩ else none := rfl
noncomputable def apV (P : Program) (e : TypeId) (d c : Nat) (fr : Fr) (s : St) (xv : V) (ys : List (List V)) : Option XS := match newE xv ys with
  | some es => if es.all (fun y => y.length == P.cellsOf e) = true ∧ appOK P e es.length ys = true then some ⟨c + 1, (d, true, .vec s.up.length d c (es.length + ys.length)) :: fr, s.put s.up.length d c (.vec e (es ++ ys))⟩ else none
  | none => match xv with
    | .vec l q γ n => apW P e d c fr s l q γ n ys (cutO n ys (s.get l q))
    | _ => none
@[simp] theorem cutO_vec (n γ : Nat) (ys es : List (List V)) (U : TypeId) : cutO n ys (some (γ, .vec U es)) = some (γ, .vec U (cutN n ys es)) := rfl
@[simp] theorem cutO_none (n : Nat) (ys : List (List V)) : cutO n ys none = none := rfl
attribute [simp] cutN_full
@[simp] theorem apV_nil (e : TypeId) (d : Nat) (ys : List (List V)) : apV P e d c fr s .nil ys = if appOK P e 0 ys = true then some ⟨c + 1, (d, true, .vec s.up.length d c ys.length) :: fr, s.put s.up.length d c (.vec e ys)⟩ else none := by
  simp [apV, newE]
@[simp] theorem apV_new (e : TypeId) (d : Nat) (ys : List (List V)) : apV P e d c fr s (.list true []) ys = if appOK P e 0 ys = true then some ⟨c + 1, (d, true, .vec s.up.length d c ys.length) :: fr, s.put s.up.length d c (.vec e ys)⟩ else none := by
  simp [apV, newE]
@[simp] theorem apV_full (e : TypeId) (d : Nat) (z y : List V) (es ys : List (List V)) : apV P e d c fr s (.list true (z :: es)) (y :: ys) = if (z :: es).all (fun y => y.length == P.cellsOf e) = true ∧ appOK P e (z :: es).length (y :: ys) = true then
      some ⟨c + 1, (d, true, .vec s.up.length d c ((z :: es).length + (y :: ys).length)) :: fr, s.put s.up.length d c (.vec e ((z :: es) ++ (y :: ys)))⟩ else none := rfl
@[simp] theorem apV_vec (e : TypeId) (d : Nat) (l q γ n : Nat) (ys : List (List V)) : apV P e d c fr s (.vec l q γ n) ys = apW P e d c fr s l q γ n ys (cutO n ys (s.get l q)) := by
  simp [apV, newE]
noncomputable def ap3 (P : Program) (d c : Nat) (fr : Fr) (s : St) : Option (Option Nat × TypeId) → Option V → Option V → Option XS
  | some (none, e), some xv, some yv => ap4 e xv (elemsOf s yv)
  | _, _, _ => none
where ap4 (e : TypeId) (xv : V) : Option (List (List V)) → Option XS
  | some ys => apV P e d c fr s xv ys
  | none => none
@[simp] theorem ap3_some (d : Nat) (e : TypeId) (xv yv : V) : ap3 P d c fr s (some (none, e)) (some xv) (some yv) = ap3.ap4 P d c fr s e xv (elemsOf s yv) := rfl
@[simp] theorem ap4_some (d : Nat) (e : TypeId) (xv : V) (ys : List (List V)) : ap3.ap4 P d c fr s e xv (some ys) = apV P e d c fr s xv ys := rfl
@[simp] theorem elemsOf_list (b : Bool) (es : List (List V)) : elemsOf s (.list b es) = some es := rfl
@[simp] theorem elemsOf_nil : elemsOf s .nil = some [] := rfl
theorem ifB {α : Type} {b : Bool} {x y : α} : (Bool.rec y x b : α) = if b = true then x else y := by cases b <;> rfl
theorem elemT_not {k : Nat} {e : TypeId} (d : Nat) (x y : Option V) : ap3 P d c fr s (some (some k, e)) x y = none := by cases x <;> cases y <;> rfl
@[simp] theorem stepK_app (d : Tmp) (x y : Operand) (T : TypeId) : stepK P E (some d) (.app [x, y] [T, T]) ⟨c, fr, s⟩ = ap3 P d c fr s (elemT P T) (rdX fr x) (rdX fr y) := by
  show xAppend P (some d) [x, y] [T, T] _ = _
  unfold xAppend xAppG
  simp only [Nat.beq_refl]
  cases hT : elemT P T with
  | none => cases rdX fr x <;> cases rdX fr y <;> rfl
  | some p =>
    obtain ⟨k, e⟩ := p
    cases k with
    | some k => rw [elemT_not]
    | none =>
      cases rdX fr x with
      | none => rfl
      | some xv =>
        cases rdX fr y with
        | none => rfl
        | some yv =>
          simp only [ap3_some]
          cases elemsOf s yv with
          | none => rfl
          | some ys =>
            simp only [ap4_some, apV]
            cases newE xv ys with
            | some es =>
              simp only [ifB, Bool.and_eq_true, List.length_append]
              by_cases hC : es.all (fun y => y.length == P.cellsOf e) = true ∧ appOK P e es.length ys = true
              · rw [if_pos hC, if_pos hC]
              · rw [if_neg hC, if_neg hC]
            | none =>
              simp only
              unfold xAppV
              cases xv with
              | vec l q γ n =>
                simp only
                cases cutO n ys (s.get l q) with
                | none => rfl
                | some z =>
                  obtain ⟨γ', r⟩ := z
                  cases r with
                  | vec W es =>
                    simp only [ifB, Bool.and_eq_true, List.length_append, apW_some, Nat.beq_eq, and_assoc]
                    by_cases hC : γ' = γ ∧ W = e ∧ n = es.length ∧ es.all (fun y => y.length == P.cellsOf e) = true ∧ appOK P e es.length ys = true
                    · rw [if_pos hC, if_pos hC]
                    · rw [if_neg hC, if_neg hC]
                  | _ => rfl
              | _ => rfl

/-! ### Calls -/
def mc2 : Option V → Option (List V) → Option (List V)
  | some v, some l => some (v :: l)
  | _, _ => none
@[simp] theorem mc2_some (v : V) (l : List V) : mc2 (some v) (some l) = some (v :: l) := rfl
@[simp] theorem mapO_nil (f : Operand → Option V) : mapO f [] = some [] := rfl
@[simp] theorem mapO_cons (f : Operand → Option V) (x : Operand) (l : List Operand) : mapO f (x :: l) = mc2 (f x) (mapO f l) := by
  simp only [mapO]
  cases f x with
  | none => rfl
  | some v => cases mapO f l <;> rfl
noncomputable def ca2 (E : XE) (d : Option Tmp) (st : XS) (f : FuncId) (args : List V) : Option XS := match E.cf f args st with
  | some (r, st') => some ⟨st'.c, putD st'.fr d true r, st'.s⟩
  | none => none
noncomputable def ca1 (E : XE) (d : Option Tmp) (st : XS) : Option V → Option (List V) → Option XS
  | some (.fn f first cap), some vs => ca2 E d st f ((first ++ vs ++ cap).map weakV)
  | some (.yld l q γ), some vs => ca3 (E.cy l q γ vs st)
  | _, _ => none
where ca3 : Option (V × XS) → Option XS
  | some (r, st') => some ⟨st'.c, putD st'.fr d true r, st'.s⟩
  | none => none
@[simp] theorem ca1_fn (st : XS) (f : FuncId) (first cap vs : List V) : ca1 E d st (some (.fn f first cap)) (some vs) = ca2 E d st f ((first ++ vs ++ cap).map weakV) := rfl
@[simp] theorem ca1_yld (st : XS) (l q γ : Nat) (vs : List V) : ca1 E d st (some (.yld l q γ)) (some vs) = ca1.ca3 d (E.cy l q γ vs st) := rfl
@[simp] theorem ca3_some (d : Tmp) (r : V) : ca1.ca3 (some d) (some (r, ⟨c, fr, s⟩)) = some ⟨c, (d, true, r) :: fr, s⟩ := rfl
theorem xCall_eq (st : XS) (f : Operand) (args : List Operand) : xCall E.cf E.cy d f args st = ca1 E d st (rdX st.fr f) (mapO (rdX st.fr) args) := by
  unfold xCall
  cases rdX st.fr f with
  | none => rfl
  | some v =>
    cases v with
    | fn f first cap =>
      simp only
      cases mapO (rdX st.fr) args with
      | none => rfl
      | some vs => simp only [ca1_fn, ca2]; cases E.cf f ((first ++ vs ++ cap).map weakV) st <;> rfl
    | yld l q γ =>
      simp only [xCallY]
      cases mapO (rdX st.fr) args with
      | none => rfl
      | some vs => simp only [ca1_yld]; cases E.cy l q γ vs st <;> rfl
    | _ => rfl
@[simp] theorem stepK_call (f : Operand) (args : List Operand) : stepK P E d (.call false none f args) ⟨c, fr, s⟩ = ca1 E d ⟨c, fr, s⟩ (rdX fr f) (mapO (rdX fr) args) := xCall_eq d ⟨c, fr, s⟩ f args
@[simp] theorem stepK_callT (t : Tmp) (f : Operand) (args : List Operand) : stepK P E d (.call false (some t) f args) ⟨c, fr, s⟩ = ca1 E d (takeI (some t) ⟨c, fr, s⟩) (rdX (takeI (some t) ⟨c, fr, s⟩).fr f) (mapO (rdX (takeI (some t) ⟨c, fr, s⟩).fr) args) := xCall_eq d _ f args
def orK : Bool → Option V → Option V → Option V
  | true, some r, _ => some r
  | _, _, z => z
@[simp] theorem orK_some (r : V) (z : Option V) : orK true (some r) z = some r := rfl
@[simp] theorem orK_same (b : Bool) (z : Option V) : orK b z z = z := by cases b <;> cases z <;> rfl
theorem callW_eq {P : Program} {kn : CF0} {rec : RecN} {f : FuncId} {args : List V} : callW P kn rec f args = orK (args.all (closedV 9)) (callK P kn rec f (args.map weakN)) (callK P kn rec f args) := by
  unfold callW orK
  cases callK P kn rec f (args.map weakN) <;> cases args.all (closedV 9) <;> rfl
attribute [simp] callW_eq
@[simp] theorem weakN_int (k : IntKind) (n : Int) : weakN (.int k n) = .int k n := rfl
@[simp] theorem weakN_bool (b : Bool) : weakN (.bool b) = .bool b := rfl
@[simp] theorem weakN_raw (v : Value) : weakN (.raw v) = .raw v := rfl
@[simp] theorem weakN_list (b : Bool) (es : List (List V)) : weakN (.list b es) = .list b es := rfl
@[simp] theorem weakN_agg (cs : List V) : weakN (.agg cs) = .agg (cs.map weakM) := rfl
@[simp] theorem weakN_nil : weakN .nil = .list false [] := rfl
@[simp] theorem weakN_fn (f : FuncId) (x y : List V) : weakN (.fn f x y) = .fn f x y := rfl
@[simp] theorem weakN_ref (cs : List V) : weakN (.ref cs) = .ref cs := rfl
@[simp] theorem weakM_int (k : IntKind) (n : Int) : weakM (.int k n) = .int k n := rfl
@[simp] theorem weakM_bool (b : Bool) : weakM (.bool b) = .bool b := rfl
@[simp] theorem weakM_list (b : Bool) (es : List (List V)) : weakM (.list b es) = .list b es := rfl
@[simp] theorem weakM_nil : weakM .nil = .list false [] := rfl
@[simp] theorem weakM_fn (f : FuncId) (x y : List V) : weakM (.fn f x y) = .fn f x y := rfl
@[simp] theorem weakM_ref (cs : List V) : weakM (.ref cs) = .ref cs := rfl
theorem ca2_closed {A : Ann} {kn : CF0} {n : Nat} {f : FuncId} {args : List V} (h : args.all (closedV 9) = true) (hh : handR P f = false) (st : XS) : ca2 (envA P A kn n) d st f args = valI d st (orK true (callK P kn (execA P A kn n) f (args.map weakN)) (callK P kn (execA P A kn n) f args)) := by
  have e : orK true (callK P kn (execA P A kn n) f (args.map weakN)) (callK P kn (execA P A kn n) f args) = callW P kn (execA P A kn n) f args := by rw [callW_eq, h]
  rw [e]
  show (match callS P kn (execA P A kn n) f args st with
    | some (r, st') => some (⟨st'.c, putD st'.fr d true r, st'.s⟩ : XS)
    | none => none) = _
  unfold callS
  rw [h, hh]
  cases callW P kn (execA P A kn n) f args <;> rfl
end
@[simp] theorem weak_int (k : IntKind) (n : Int) : weakV (.int k n) = .int k n := rfl
@[simp] theorem weak_bool (b : Bool) : weakV (.bool b) = .bool b := rfl
@[simp] theorem weak_list (b : Bool) (es : List (List V)) : weakV (.list b es) = .list false es := rfl
@[simp] theorem weak_agg (cs : List V) : weakV (.agg cs) = .agg (cs.map weakC) := rfl
@[simp] theorem weakC_int (k : IntKind) (n : Int) : weakC (.int k n) = .int k n := rfl
@[simp] theorem weakC_bool (b : Bool) : weakC (.bool b) = .bool b := rfl
@[simp] theorem weakC_list (b : Bool) (es : List (List V)) : weakC (.list b es) = .list false es := rfl
@[simp] theorem weakC_nil : weakC .nil = .nil := rfl
@[simp] theorem weak_nil : weakV .nil = .nil := rfl
@[simp] theorem weak_fn (f : FuncId) (x y : List V) : weakV (.fn f x y) = .fn f x y := rfl
@[simp] theorem closed_int (f : Nat) (k : IntKind) (n : Int) : closedV (f + 1) (.int k n) = true := rfl
@[simp] theorem closed_bool (f : Nat) (b : Bool) : closedV (f + 1) (.bool b) = true := rfl
@[simp] theorem closed_nil (f : Nat) : closedV (f + 1) .nil = true := rfl
@[simp] theorem closed_agg (f : Nat) (cs : List V) : closedV (f + 1) (.agg cs) = cs.all (closedV f) := rfl
@[simp] theorem closed_tup (f : Nat) (cs : List V) : closedV (f + 1) (.tup cs) = cs.all (closedV f) := rfl
@[simp] theorem closed_ref (f : Nat) (cs : List V) : closedV (f + 1) (.ref cs) = cs.all (closedV f) := rfl
@[simp] theorem closed_list (f : Nat) (b : Bool) (es : List (List V)) : closedV (f + 1) (.list b es) = es.all fun e => e.all (closedV f) := rfl
@[simp] theorem closed_fn (f : Nat) (g : FuncId) (x y : List V) : closedV (f + 1) (.fn g x y) = (x.all (closedV f) && y.all (closedV f)) := rfl

/-! ### Values -/
section
variable (r : Operand → Option V)
def o1 (f : V → Option V) : Option V → Option V
  | some v => f v
  | none => none
@[simp] theorem o1_some (f : V → Option V) (v : V) : o1 f (some v) = f v := rfl
def o2 (f : V → V → Option V) : Option V → Option V → Option V
  | some a, some b => f a b
  | _, _ => none
@[simp] theorem o2_some (f : V → V → Option V) (a b : V) : o2 f (some a) (some b) = f a b := rfl
theorem bind_o1 (f : V → Option V) (x : Option V) : x.bind f = o1 f x := by cases x <;> rfl
theorem bind_o2 (f : V → V → Option V) (x y : Option V) : (x.bind fun a => y.bind fun b => f a b) = o2 f x y := by cases x <;> cases y <;> rfl
@[simp] theorem evP_un (op : UnOp) (T : TypeId) (x : Operand) : evP P (mkO (.unOp op T x)) s r = o1 (evUn op) (r x) := bind_o1 _ _
@[simp] theorem evP_conv (T U : TypeId) (x : Operand) : evP P (mkO (.convert T U x)) s r = o1 (evConv P T U) (r x) := bind_o1 _ _
@[simp] theorem evP_idxA (T : TypeId) (x i : Operand) : evP P (mkO (.indexAddr T x i)) s r = o2 (evIndexAddr P s T) (r x) (r i) := bind_o2 _ _ _
@[simp] theorem evP_idx (T : TypeId) (x i : Operand) : evP P (mkO (.index T x i)) s r = o2 (evIndex P T) (r x) (r i) := bind_o2 _ _ _
@[simp] theorem evP_field (T : TypeId) (x : Operand) (f : Nat) : evP P (mkO (.field T x f)) s r = o1 (fun a => evField P T a f) (r x) := bind_o1 _ _
@[simp] theorem evP_ext (x : Operand) (i : Nat) : evP P (mkO (.extract x i)) s r = o1 (fun a => evExtract a i) (r x) := bind_o1 _ _
@[simp] theorem evP_len (x : Operand) (T : TypeId) : evP P (mkO (.call ⟨.builtin .len, #[x], #[T]⟩)) s r = o1 (evLen P T) (r x) := bind_o1 _ _
end
@[simp] theorem evUn_not (b : Bool) : evUn .not (.bool b) = some (.bool !b) := rfl
@[simp] theorem evUn_neg (k : IntKind) (n : Int) : evUn .neg (.int k n) = some (.int k (k.wrap (0 - n))) := rfl
@[simp] theorem evExtract_tup (vs : List V) (i : Nat) : evExtract (.tup vs) i = vs[i]? := rfl

/-! ### States -/
@[simp] theorem put_mk (up : List Level) (loc : Level) (l k g : Nat) (r : Res) : St.put ⟨up, loc⟩ l k g r = if l = up.length then ⟨up, (k, g, r) :: loc⟩ else ⟨up.modify l fun L => L.put k g r, loc⟩ := rfl
def upG (k : Nat) : Option Level → Option (Nat × Res)
  | some L => L.get k
  | none => none
@[simp] theorem upG_some (k : Nat) (L : Level) : upG k (some L) = L.get k := rfl
@[simp] theorem get_mk (up : List Level) (loc : Level) (l k : Nat) : St.get ⟨up, loc⟩ l k = if l = up.length then loc.get k else upG k up[l]? := rfl
def kx (k : Nat) (r : Fr) : Option (Bool × V) → Fr
  | some (c, v) => (k, c, v) :: r
  | none => r
@[simp] theorem kx_some (k : Nat) (r : Fr) (c : Bool) (v : V) : kx k r (some (c, v)) = (k, c, v) :: r := rfl
@[simp] theorem kx_none (k : Nat) (r : Fr) : kx k r none = r := rfl
@[simp] theorem keepX_nil : keepX [] fr = [] := rfl
@[simp] theorem keepX_cons (k : Nat) (ks : List Nat) : keepX (k :: ks) fr = kx k (keepX ks fr) (getF fr k) := by
  show (match getF fr k with | some (c, v) => (k, c, v) :: keepX ks fr | none => keepX ks fr) = _
  cases getF fr k <;> rfl
def kl (k : Nat) (r : Level) : Option (Nat × Res) → Level
  | some (g, x) => (k, g, x) :: r
  | none => r
@[simp] theorem kl_some (k : Nat) (r : Level) (g : Nat) (x : Res) : kl k r (some (g, x)) = (k, g, x) :: r := rfl
@[simp] theorem kl_none (k : Nat) (r : Level) : kl k r none = r := rfl
@[simp] theorem keepL_nil (L : Level) : keepL [] L = [] := rfl
@[simp] theorem keepL_cons (k : Nat) (ks : List Nat) (L : Level) : keepL (k :: ks) L = kl k (keepL ks L) (L.get k) := by
  unfold kl
  simp only [keepL]
  cases L.get k <;> rfl
@[simp] theorem trimO_mk (ks ls : List Nat) (c : Nat) (fr : Fr) (up : List Level) (loc : Level) : trimO (some (ks, ls)) ⟨c, fr, ⟨up, loc⟩⟩ = ⟨c, keepX ks fr, ⟨up, keepL ls loc⟩⟩ := rfl
@[simp] theorem trimO_none : trimO none st = st := rfl
@[simp] theorem toN_so : toN (some st) = some (.normal, st) := rfl
@[simp] theorem toN_none : toN none = none := rfl
@[simp] theorem toN_ite (c : Prop) [Decidable c] (x y : Option XS) : toN (if c then x else y) = if c then toN x else toN y := by split <;> rfl
@[simp] theorem runR_str (l : List IOp) : runR P E (.str l) st = runI P E l (some st) := rfl
@[simp] theorem runR_drw (S : List ISeg) : runR P E (.drw S) st = runS P E S (some st) := rfl
@[simp] theorem runR_cls (ks : List (Nat × Nat × Nat)) : runR P E (.cls ks) st = clsR P ks (some st) := rfl
@[simp] theorem clsR_nil (o : Option XS) : clsR P [] o = o := rfl
@[simp] theorem clsR_cons (T a d : Nat) (r : List (Nat × Nat × Nat)) (st : XS) : clsR P ((T, a, d) :: r) (some st) = clsR P r (if ptrK (rdX st.fr (.tmp a)) = true then valI (some d) st (xLoad P st.fr st.s T (.tmp a)) else none) := by
  show clsR P r (Bool.rec _ _ (ptrK (rdX st.fr (.tmp a)))) = _
  cases ptrK (rdX st.fr (.tmp a)) with
  | false => rfl
  | true =>
    simp only [if_true]
    congr 1
@[simp] theorem ptrK_ptr (l k g o : Nat) : ptrK (some (.ptr l k g o)) = true := rfl

/-! ### The end of a call -/
@[simp] theorem finX_ret (rs : List ResultVar) : finX P rs (some (.ret, st)) = finX.finV st.s (resV P rs st.fr st.s) := rfl
@[simp] theorem finX_normal (rs : List ResultVar) : finX P rs (some (.normal, st)) = finX.finV st.s (resV P rs st.fr st.s) := rfl
def fin2 : Option V → Option V
  | some r => if closedV 9 r = true then some r else none
  | none => none
@[simp] theorem fin2_some (r : V) : fin2 (some r) = if closedV 9 r = true then some r else none := rfl
@[simp] theorem finV_some (v : V) : finX.finV s (some v) = fin2 (closeX s 4 v) := by
  unfold finX.finV fin2
  simp only
  cases closeX s 4 v with
  | none => rfl
  | some r => simp only [ifB]
@[simp] theorem resOne_tmp (t : Tmp) : resOne P fr s (.tmp t) = rdT (getF fr t) := by
  rw [getF_eq]
  show (match fr.get t with
    | some (true, v) => some v
    | _ => none) = _
  cases fr.get t with
  | none => rfl
  | some p => obtain ⟨c, v⟩ := p; cases c <;> rfl
@[simp] theorem resV_one (x : ResultVar) : resV P [x] fr s = resOne P fr s x := by
  unfold resV
  simp only [List.mapM_cons, List.mapM_nil]
  cases resOne P fr s x <;> rfl
def re2 : Option V → Option V → Option V
  | some a, some b => some (.tup [a, b])
  | _, _ => none
@[simp] theorem re2_some (a b : V) : re2 (some a) (some b) = some (.tup [a, b]) := rfl
@[simp] theorem resV_two (x y : ResultVar) : resV P [x, y] fr s = re2 (resOne P fr s x) (resOne P fr s y) := by
  unfold resV
  simp only [List.mapM_cons, List.mapM_nil]
  cases resOne P fr s x <;> cases resOne P fr s y <;> rfl
def re3 : Option V → Option V → Option V → Option V
  | some a, some b, some c => some (.tup [a, b, c])
  | _, _, _ => none
@[simp] theorem re3_some (a b c : V) : re3 (some a) (some b) (some c) = some (.tup [a, b, c]) := rfl
@[simp] theorem resV_three (x y z : ResultVar) : resV P [x, y, z] fr s = re3 (resOne P fr s x) (resOne P fr s y) (resOne P fr s z) := by
  unfold resV
  simp only [List.mapM_cons, List.mapM_nil]
  cases resOne P fr s x <;> cases resOne P fr s y <;> cases resOne P fr s z <;> rfl
@[simp] theorem closeX_int (f : Nat) (k : IntKind) (n : Int) : closeX s (f + 1) (.int k n) = some (.int k n) := rfl
@[simp] theorem closeX_bool (f : Nat) (b : Bool) : closeX s (f + 1) (.bool b) = some (.bool b) := rfl
@[simp] theorem closeX_nil (f : Nat) : closeX s (f + 1) .nil = some .nil := rfl
@[simp] theorem closeX_list (f : Nat) (b : Bool) (es : List (List V)) : closeX s (f + 1) (.list b es) = some (.list false es) := rfl
def ma1 (mk : List V → V) : Option (List V) → Option V
  | some l => some (mk l)
  | none => none
@[simp] theorem ma1_some (mk : List V → V) (l : List V) : ma1 mk (some l) = some (mk l) := rfl
def mapC (f : V → Option V) : List V → Option (List V)
  | [] => some []
  | v :: l => mc2 (f v) (mapC f l)
theorem mapC_eq (f : V → Option V) : ∀ (l : List V), l.mapM f = mapC f l
  | [] => rfl
  | v :: l => by
    simp only [List.mapM_cons, mapC, mapC_eq f l]
    cases f v <;> cases mapC f l <;> rfl
@[simp] theorem mapC_nil (f : V → Option V) : mapC f [] = some [] := rfl
@[simp] theorem mapC_cons (f : V → Option V) (v : V) (l : List V) : mapC f (v :: l) = mc2 (f v) (mapC f l) := rfl
@[simp] theorem closeX_agg (f : Nat) (cs : List V) : closeX s (f + 1) (.agg cs) = ma1 .agg (mapC (closeX s f) cs) := by
  simp only [closeX, mapC_eq]; cases mapC (closeX s f) cs <;> rfl
@[simp] theorem closeX_tup (f : Nat) (cs : List V) : closeX s (f + 1) (.tup cs) = ma1 .tup (mapC (closeX s f) cs) := by
  simp only [closeX, mapC_eq]; cases mapC (closeX s f) cs <;> rfl
def cv1 (g m : Nat) : Option (Nat × Res) → Option V
  | some (g', .vec _ es) => if g' = g ∧ m ≤ es.length then some (.list false (es.take m)) else none
  | _ => none
@[simp] theorem cv1_some (g m g' : Nat) (T : TypeId) (es : List (List V)) : cv1 g m (some (g', .vec T es)) = if g' = g ∧ m ≤ es.length then some (.list false (es.take m)) else none := rfl
@[simp] theorem closeX_vec (f : Nat) (up : List Level) (loc : Level) (l k g m : Nat) : closeX ⟨up, loc⟩ (f + 1) (.vec l k g m) = if l = up.length then cv1 g m (loc.get k) else some (.vec l k g m) := by
  simp only [closeX]
  split
  · cases loc.get k with
    | none => rfl
    | some z => obtain ⟨g', r⟩ := z; cases r <;> rfl
  · rfl
@[simp] theorem resOne_cell (t : Nat) (T : TypeId) : resOne P fr s (.cell t T) = ld1 P s T (rdT (getF fr t)) := by
  rw [getF_eq]
  show (match fr.get t with
    | some (true, p) => (cellsAt s p).bind (whole P T)
    | _ => none) = _
  cases fr.get t with
  | none => rfl
  | some p =>
    obtain ⟨c, v⟩ := p
    cases c with
    | false => rfl
    | true =>
      simp only [rdT_some, ld1_some]
      cases cellsAt s v <;> rfl

/-! ### Regions that draw their order -/
section
variable (d : Option Tmp) (c : Nat)
@[simp] theorem runS_nil (r : Option XS) : runS P E [] r = r := rfl
@[simp] theorem runS_cons (p : ISeg) (S : List ISeg) (r : Option XS) : runS P E (p :: S) r = runS P E S (runI P E p.sq (endP (runP P E p.ph (begP p.new r)))) := rfl
@[simp] theorem runP_nil (r : Option (XS × Places × Places)) : runP P E [] r = r := rfl
@[simp] theorem runP_cons (i : IOp) (l : List IOp) (r : Option (XS × Places × Places)) : runP P E (i :: l) r = runP P E l (opO0 P E i r) := rfl
@[simp] theorem begP_mk (new : List Tmp) (up : List Level) (loc : Level) : begP new (some ⟨c, fr, ⟨up, loc⟩⟩) = if (new.all fun d => (loc.get d).isNone) = true then some (⟨c, fr, ⟨up, loc⟩⟩, [], []) else none := by
  show (Bool.rec none _ _ : Option _) = _
  rw [ifB]; rfl
@[simp] theorem endP_some (rd wr : Places) : endP (some (st, rd, wr)) = if (wr.all fun p => !(rd.contains p)) = true then some st else none := by
  show (Bool.rec none _ _ : Option _) = _
  rw [ifB]
@[simp] theorem endP_none : endP none = none := rfl
@[simp] theorem endP_ite (c : Prop) [Decidable c] (x y : Option (XS × Places × Places)) : endP (if c then x else y) = if c then endP x else endP y := by split <;> rfl
@[simp] theorem opO0_none (i : IOp) : opO0 P E i none = none := rfl
@[simp] theorem opO0_ite (i : IOp) (c : Prop) [Decidable c] (x y : Option (XS × Places × Places)) : opO0 P E i (if c then x else y) = if c then opO0 P E i x else opO0 P E i y := by split <;> rfl
@[simp] theorem runP_ite (l : List IOp) (c : Prop) [Decidable c] (x y : Option (XS × Places × Places)) : runP P E l (if c then x else y) = if c then runP P E l x else runP P E l y := by split <;> rfl
@[simp] theorem runS_ite (l : List ISeg) (c : Prop) [Decidable c] (x y : Option XS) : runS P E l (if c then x else y) = if c then runS P E l x else runS P E l y := by split <;> rfl
def ph3 (rds rd wr : Places) : Option (XS × Places) → Option (XS × Places × Places)
  | some (st, w) => some (st, rds ++ rd, w ++ wr)
  | none => none
@[simp] theorem ph3_some (rds rd wr w : Places) : ph3 rds rd wr (some (st, w)) = some (st, rds ++ rd, w ++ wr) := rfl
@[simp] theorem ph3_none (rds rd wr : Places) : ph3 rds rd wr none = none := rfl
@[simp] theorem ph3_ite (rds rd wr : Places) (c : Prop) [Decidable c] (x y : Option (XS × Places)) : ph3 rds rd wr (if c then x else y) = if c then ph3 rds rd wr x else ph3 rds rd wr y := by split <;> rfl
@[simp] theorem opO0_some (i : IOp) (rd wr : Places) : opO0 P E i (some (st, rd, wr)) = ph3 (rdsK P i.k (rdX st.fr)) rd wr (opI0 P E i st) := by
  show (match opI0 P E i st with | some (st', w) => some (st', rdsK P i.k (rdX st.fr) ++ rd, w ++ wr) | none => none) = _
  cases opI0 P E i st <;> rfl
@[simp] theorem opI0_free (k : IK) : opI0 P E ⟨none, d, k⟩ st = stepK0 P E d k st := rfl
noncomputable def gI0 (P : Program) (E : XE) (d : Option Tmp) (k : IK) (st : XS) (w : Bool) (r : Option (Bool × V)) : Option (XS × Places) := match r with
  | some (c, .bool b) => if (c && (b == w)) = true then stepK0 P E d k st else if plK k = true then none else some (xSkip d st, [])
  | _ => none
@[simp] theorem opI0_guard (t : Tmp) (w : Bool) (k : IK) : opI0 P E ⟨some (t, w), d, k⟩ st = gI0 P E d k st w (getF st.fr t) := by
  show (match (match getF st.fr t with | some (c, .bool b) => some (c && (b == w)) | _ => none : Option Bool) with
    | some true => stepK0 P E d k st
    | some false => Bool.rec (some (xSkip d st, [])) none (plK k)
    | none => none) = _
  unfold gI0
  cases getF st.fr t with
  | none => rfl
  | some p =>
    obtain ⟨c, v⟩ := p
    cases v with
    | bool b => cases h : (c && (b == w)) <;> simp [h, ifB]
    | _ => rfl
@[simp] theorem gI0_some (k : IK) (w c b : Bool) : gI0 P E d k st w (some (c, .bool b)) = if (c && (b == w)) = true then stepK0 P E d k st else if plK k = true then none else some (xSkip d st, []) := rfl
@[simp] theorem rds_ld (T : TypeId) (x : Operand) (f : Operand → Option V) : rdsK P (.ld T x) f = placeL (Nat.beq (P.cellsOf T) 1) (f x) := rfl
@[simp] theorem placeA_two (x y : Operand) (f : Operand → Option V) : placeA f [x, y] = placeV (f y) := rfl
@[simp] theorem placeVv_list (b : Bool) (es : List (List V)) : placeV (some (.list b es)) = [] := rfl
@[simp] theorem placeVv_nil : placeV (some .nil) = [] := rfl
@[simp] theorem placeVv_vec (l k γ n : Nat) : placeV (some (.vec l k γ n)) = [(l, k)] := rfl
@[simp] theorem rds_mv (x : Operand) (f : Operand → Option V) : rdsK P (.mv x) f = [] := rfl
@[simp] theorem rds_bin (op : BinOp) (T : TypeId) (x y : Operand) (f : Operand → Option V) : rdsK P (.bin op T x y) f = [] := rfl
@[simp] theorem rds_fa (T : TypeId) (x : Operand) (i : Nat) (f : Operand → Option V) : rdsK P (.fa T x i) f = [] := rfl
@[simp] theorem rds_pick (x y z : Operand) (f : Operand → Option V) : rdsK P (.pick x y z) f = [] := rfl
@[simp] theorem rds_build (T : TypeId) (ps : List (Nat × Operand)) (f : Operand → Option V) : rdsK P (.build T ps) f = [] := rfl
@[simp] theorem rds_buildS (T : TypeId) (n : Nat) (ps : List (Nat × Operand)) (f : Operand → Option V) : rdsK P (.buildS T n ps) f = [] := rfl
@[simp] theorem rds_alloc (T : TypeId) (f : Operand → Option V) : rdsK P (.alloc T) f = [] := rfl
@[simp] theorem rds_box (x : Operand) (f : Operand → Option V) : rdsK P (.box x) f = [] := rfl
@[simp] theorem rds_sto (T : TypeId) (x y : Operand) (f : Operand → Option V) : rdsK P (.sto T x y) f = [] := rfl
@[simp] theorem rds_app (x : List Operand) (y : List TypeId) (f : Operand → Option V) : rdsK P (.app x y) f = placeA f x := rfl
@[simp] theorem rds_call (b : Bool) (t : Option Tmp) (g : Operand) (x : List Operand) (f : Operand → Option V) : rdsK P (.call b t g x) f = [] := rfl
@[simp] theorem rds_idxA (T : TypeId) (x i : Operand) (f : Operand → Option V) : rdsK P (.oth (.indexAddr T x i)) f = placeI (f x) := rfl
@[simp] theorem rds_un (op : UnOp) (T : TypeId) (x : Operand) (f : Operand → Option V) : rdsK P (.oth (.unOp op T x)) f = [] := rfl
@[simp] theorem rds_ext (x : Operand) (i : Nat) (f : Operand → Option V) : rdsK P (.oth (.extract x i)) f = [] := rfl
@[simp] theorem rds_len (x : Operand) (T : TypeId) (b : Builtin) (f : Operand → Option V) : rdsK P (.oth (.call ⟨.builtin b, #[x], #[T]⟩)) f = [] := by cases b <;> rfl
@[simp] theorem rds_mf (g : Fn) (x y : Array Operand) (f : Operand → Option V) : rdsK P (.oth (.makeFunc g x y)) f = [] := rfl
def nw : Option XS → Option (XS × Places)
  | some st => some (st, [])
  | none => none
@[simp] theorem nw_some : nw (some st) = some (st, []) := rfl
@[simp] theorem nw_none : nw none = none := rfl
@[simp] theorem nw_ite (c : Prop) [Decidable c] (x y : Option XS) : nw (if c then x else y) = if c then nw x else nw y := by split <;> rfl
theorem noW_nw (r : Option XS) : noW r = nw r := by cases r <;> rfl
@[simp] theorem step0_mv (x : Operand) : stepK0 P E d (.mv x) st = nw (stepK P E d (.mv x) st) := noW_nw _
@[simp] theorem step0_bin (op : BinOp) (T : TypeId) (x y : Operand) : stepK0 P E d (.bin op T x y) st = nw (stepK P E d (.bin op T x y) st) := noW_nw _
@[simp] theorem step0_fa (T : TypeId) (x : Operand) (f : Nat) : stepK0 P E d (.fa T x f) st = nw (stepK P E d (.fa T x f) st) := noW_nw _
@[simp] theorem step0_ldz (T : TypeId) (x : Operand) : stepK0 P E d (.ldz T x) st = stepK0 P E d (.ld T x) st := rfl
@[simp] theorem stepK_ldz (T : TypeId) (x : Operand) : stepK P E d (.ldz T x) st = stepK P E d (.ld T x) st := rfl
@[simp] theorem rds_ldz (T : TypeId) (x : Operand) (f : Operand → Option V) : rdsK P (.ldz T x) f = [] := rfl
@[simp] theorem step0_ld (T : TypeId) (x : Operand) : stepK0 P E d (.ld T x) st = nw (stepK P E d (.ld T x) st) := noW_nw _
@[simp] theorem step0_pick (x y z : Operand) : stepK0 P E d (.pick x y z) st = nw (stepK P E d (.pick x y z) st) := noW_nw _
@[simp] theorem step0_build (T : TypeId) (ps : List (Nat × Operand)) : stepK0 P E d (.build T ps) st = nw (stepK P E d (.build T ps) st) := noW_nw _
@[simp] theorem step0_buildS (T : TypeId) (n : Nat) (ps : List (Nat × Operand)) : stepK0 P E d (.buildS T n ps) st = nw (stepK P E d (.buildS T n ps) st) := noW_nw _
@[simp] theorem step0_oth (op : Op) : stepK0 P E d (.oth op) st = nw (stepK P E d (.oth op) st) := noW_nw _
@[simp] theorem step0_alloc (T : TypeId) : stepK0 P E d (.alloc T) st = nw (stepK P E d (.alloc T) st) := noW_nw _
@[simp] theorem step0_box (x : Operand) : stepK0 P E d (.box x) st = nw (stepK P E d (.box x) st) := noW_nw _
@[simp] theorem step0_mkM (x : Option Operand) : stepK0 P E d (.mkM x) st = nw (stepK P E d (.mkM x) st) := noW_nw _
@[simp] theorem step0_mkS (T : TypeId) (x y : Operand) : stepK0 P E d (.mkS T x y) st = nw (stepK P E d (.mkS T x y) st) := noW_nw _
def wp (p : Places) : Option XS → Option (XS × Places)
  | some st => some (st, p)
  | none => none
@[simp] theorem wp_some (p : Places) : wp p (some st) = some (st, p) := rfl
@[simp] theorem wp_none (p : Places) : wp p none = none := rfl
@[simp] theorem wp_ite (p : Places) (c : Prop) [Decidable c] (x y : Option XS) : wp p (if c then x else y) = if c then wp p x else wp p y := by split <;> rfl
@[simp] theorem step0_sto (T : TypeId) (x y : Operand) : stepK0 P E d (.sto T x y) st = wp (placeS (Nat.beq (P.cellsOf T) 1) (rdX st.fr x)) (stepK P E d (.sto T x y) st) := by
  show (match xStore P d T x y st with | some st' => some (st', placeS (Nat.beq (P.cellsOf T) 1) (rdX st.fr x)) | none => none) = wp _ (xStore P d T x y st)
  cases xStore P d T x y st <;> rfl
@[simp] theorem placeL_f (x : Option V) : placeL false x = placeOf x := by cases x <;> rfl
@[simp] theorem placeL_ptr (l k g o : Nat) : placeL true (some (.ptr l k g o)) = [(l, k + 2000000), (l, k + 4000000), (l, 6000000 + 1000 * k + o)] := rfl
@[simp] theorem placeL_eptr (l k g i o : Nat) : placeL true (some (.eptr l k g i o)) = [(l, k + 2000000), (l, k + 4000000), (l, 6000000 + 1000 * k + o)] := rfl
@[simp] theorem placeL_ref (b : Bool) (cs : List V) : placeL b (some (.ref cs)) = [] := by cases b <;> rfl
@[simp] theorem placeS_ptr (l k g o : Nat) : placeS true (some (.ptr l k g o)) = [(l, k), (l, 6000000 + 1000 * k + o)] := rfl
@[simp] theorem placeS_eptr (l k g i o : Nat) : placeS true (some (.eptr l k g i o)) = [(l, k), (l, 6000000 + 1000 * k + o)] := rfl
@[simp] theorem placeS_ptrf (l k g o : Nat) : placeS false (some (.ptr l k g o)) = [(l, k), (l, k + 4000000)] := rfl
@[simp] theorem placeS_eptrf (l k g i o : Nat) : placeS false (some (.eptr l k g i o)) = [(l, k), (l, k + 4000000)] := rfl
@[simp] theorem placeOf_ptr (l k g o : Nat) : placeOf (some (.ptr l k g o)) = [(l, k)] := rfl
@[simp] theorem placeOf_eptr (l k g i o : Nat) : placeOf (some (.eptr l k g i o)) = [(l, k)] := rfl
@[simp] theorem placeOf_ref (cs : List V) : placeOf (some (.ref cs)) = [] := rfl
@[simp] theorem placeI_ptr (l k g o : Nat) : placeI (some (.ptr l k g o)) = [] := rfl
@[simp] theorem placeI_vec (l k g n : Nat) : placeI (some (.vec l k g n)) = [(l, k + apK)] := rfl
@[simp] theorem placeI_list (b : Bool) (es : List (List V)) : placeI (some (.list b es)) = [] := rfl
@[simp] theorem placeI_ref (cs : List V) : placeI (some (.ref cs)) = [] := rfl
noncomputable def c01 (E : XE) (d : Option Tmp) (st : XS) : Option V → Option (List V) → Option XS
  | some (.fn f first cap), some vs => valI d st (E.c0 f ((first ++ vs ++ cap).map weakV))
  | _, _ => none
@[simp] theorem c01_fn (f : FuncId) (first cap vs : List V) : c01 E d st (some (.fn f first cap)) (some vs) = valI d st (E.c0 f ((first ++ vs ++ cap).map weakV)) := rfl
@[simp] theorem step0_call (t : Option Tmp) (f : Operand) (args : List Operand) : stepK0 P E d (.call false t f args) ⟨c, fr, s⟩ = nw (c01 E d ⟨c, fr, s⟩ (rdX fr f) (mapO (rdX fr) args)) := by
  show noW (xCall0 E.c0 d f args ⟨c, fr, s⟩) = _
  rw [noW_nw]
  congr 1
  unfold xCall0
  cases hf : rdX fr f with
  | none => simp only [c01]
  | some v =>
    cases v with
    | fn g first cap =>
      simp only
      cases hm : mapO (rdX fr) args with
      | none => simp only [c01]
      | some vs =>
        simp only [c01_fn]
        cases E.c0 g ((first ++ vs ++ cap).map weakV) <;> rfl
    | _ => simp only [c01]
@[simp] theorem c0_env {A : Ann} {kn : CF0} {n : Nat} : (envA P A kn n).c0 = callW P kn (execA P A kn n) := rfl
end
theorem xCond_true {A : Ann} {kn : CF0} {n N : Nat} (a b : Code) : xCond (execA P A kn n N) a b st (some (.bool true)) = execA P A kn n N a st := rfl
theorem xCond_false {A : Ann} {kn : CF0} {n N : Nat} (a b : Code) : xCond (execA P A kn n N) a b st (some (.bool false)) = execA P A kn n N b st := rfl
attribute [simp] fstR_seq fstR_block fstR_loop exec_seq exec_cond exec_block exec_loop exec_skip exec_exit exec_ret exec_scope xSeq_normal xSeq_ret xSeq_exit xSeq_ite xBlock_normal xBlock_ret xBlock_exit xBlock_ite xCond_true xCond_false finX_ite
end Go.Pg
/- Equations by which open walks are worked out: what operations give. No program in sight. -/
namespace Go.Pg
variable {P : Program} {E : XE} {st : XS} {fr : Fr} {s : St}

@[simp] theorem cellsV_int (k : IntKind) (n : Int) : cellsV (.int k n) = [.int k n] := rfl
@[simp] theorem cellsV_bool (b : Bool) : cellsV (.bool b) = [.bool b] := rfl
@[simp] theorem cellsV_agg (cs : List V) : cellsV (.agg cs) = cs := rfl
@[simp] theorem cellsV_list (b : Bool) (es : List (List V)) : cellsV (.list b es) = [.list b es] := rfl
@[simp] theorem cellsV_nil : cellsV .nil = [.nil] := rfl
@[simp] theorem cellsV_vec (l k g n : Nat) : cellsV (.vec l k g n) = [.vec l k g n] := rfl
@[simp] theorem cellsV_mp (l k g : Nat) : cellsV (.mp l k g) = [.mp l k g] := rfl
@[simp] theorem cellsV_fn (f : FuncId) (x y : List V) : cellsV (.fn f x y) = [.fn f x y] := rfl
@[simp] theorem cellsV_ptr (l k g n : Nat) : cellsV (.ptr l k g n) = [.ptr l k g n] := rfl
@[simp] theorem cellsV_ref (cs : List V) : cellsV (.ref cs) = [.ref cs] := rfl
@[simp] theorem flatOk_int (k : IntKind) (n : Int) : flatOk (.int k n) = true := rfl
@[simp] theorem flatOk_bool (b : Bool) : flatOk (.bool b) = true := rfl
@[simp] theorem flatOk_agg (cs : List V) : flatOk (.agg cs) = true := rfl
@[simp] theorem flatOk_list (b : Bool) (es : List (List V)) : flatOk (.list b es) = true := rfl
@[simp] theorem flatOk_nil : flatOk .nil = true := rfl
@[simp] theorem flatOk_vec (l k g n : Nat) : flatOk (.vec l k g n) = true := rfl
@[simp] theorem flatOk_mp (l k g : Nat) : flatOk (.mp l k g) = true := rfl
@[simp] theorem flatOk_fn (f : FuncId) (x y : List V) : flatOk (.fn f x y) = true := rfl
@[simp] theorem flatOk_ptr (l k g n : Nat) : flatOk (.ptr l k g n) = true := rfl
@[simp] theorem flatOk_ref (cs : List V) : flatOk (.ref cs) = true := rfl

@[simp] theorem evBin_int (op : BinOp) (T : TypeId) (k j : IntKind) (a b : Int) : evBin P op T (.int k a) (.int j b) = if k = j then evInt op k a b else evSh op k a b := rfl
@[simp] theorem evSh_shl (k : IntKind) (a b : Int) : evSh .shl k a b = if b < 0 then none else some (.int k (k.wrap (a * 2 ^ (min b.toNat k.bits)))) := rfl
@[simp] theorem evSh_shr (k : IntKind) (a b : Int) : evSh .shr k a b = if b < 0 then none else some (.int k (a.fdiv (2 ^ (min b.toNat k.bits)))) := rfl
section
variable (k : IntKind) (a b : Int)
@[simp] theorem evInt_add : evInt .add k a b = some (.int k (k.wrap (a + b))) := rfl
@[simp] theorem evInt_sub : evInt .sub k a b = some (.int k (k.wrap (a - b))) := rfl
@[simp] theorem evInt_mul : evInt .mul k a b = some (.int k (k.wrap (a * b))) := rfl
@[simp] theorem evInt_quo : evInt .quo k a b = if b = 0 then none else some (.int k (k.wrap (a.tdiv b))) := rfl
@[simp] theorem evInt_rem : evInt .rem k a b = if b = 0 then none else some (.int k (a.tmod b)) := rfl
@[simp] theorem evInt_and : evInt .and k a b = some (.int k (k.wrap (BitVec.ofInt k.bits a &&& BitVec.ofInt k.bits b).toNat)) := rfl
@[simp] theorem evInt_or : evInt .or k a b = some (.int k (k.wrap (BitVec.ofInt k.bits a ||| BitVec.ofInt k.bits b).toNat)) := rfl
@[simp] theorem evInt_andNot : evInt .andNot k a b = some (.int k (k.wrap (BitVec.ofInt k.bits a &&& ~~~ BitVec.ofInt k.bits b).toNat)) := rfl
@[simp] theorem evInt_shl : evInt .shl k a b = if b < 0 then none else some (.int k (k.wrap (a * 2 ^ (min b.toNat k.bits)))) := rfl
@[simp] theorem evInt_shr : evInt .shr k a b = if b < 0 then none else some (.int k (a.fdiv (2 ^ (min b.toNat k.bits)))) := rfl
@[simp] theorem evInt_eql : evInt .eql k a b = some (.bool (decide (a = b))) := by
  show some (V.bool (a == b)) = _
  congr 2
@[simp] theorem evInt_neq : evInt .neq k a b = some (.bool (!decide (a = b))) := by
  show some (V.bool (a != b)) = _
  congr 2
@[simp] theorem evInt_lss : evInt .lss k a b = some (.bool (decide (a < b))) := rfl
@[simp] theorem evInt_leq : evInt .leq k a b = some (.bool (decide (a ≤ b))) := rfl
@[simp] theorem evInt_gtr : evInt .gtr k a b = some (.bool (decide (b < a))) := rfl
@[simp] theorem evInt_geq : evInt .geq k a b = some (.bool (decide (b ≤ a))) := rfl
end
theorem wrap_i64 {x : Int} (h1 : -9223372036854775808 ≤ x) (h2 : x < 9223372036854775808) : IntKind.i64.wrap x = x := by
  simp only [IntKind.wrap, IntKind.bits, IntKind.signed]
  simp
  omega
@[simp] theorem evBin_boolE (T : TypeId) (a b : Bool) : evBin P .eql T (.bool a) (.bool b) = if boolT P T = true then some (.bool (a == b)) else none := rfl
@[simp] theorem evBin_boolN (T : TypeId) (a b : Bool) : evBin P .neq T (.bool a) (.bool b) = if boolT P T = true then some (.bool (a != b)) else none := rfl
def bl1 (f : Bool → Bool) : Option Bool → Option V
  | some b => some (.bool (f b))
  | none => none
@[simp] theorem bl1_some (f : Bool → Bool) (b : Bool) : bl1 f (some b) = some (.bool (f b)) := rfl
@[simp] theorem evBin_aggE (T : TypeId) (cs ds : List V) : evBin P .eql T (.agg cs) (.agg ds) = bl1 (fun b => b) (evEq P T cs ds) := by
  show (evEq P T cs ds).map V.bool = _
  cases evEq P T cs ds <;> rfl
@[simp] theorem evBin_aggN (T : TypeId) (cs ds : List V) : evBin P .neq T (.agg cs) (.agg ds) = bl1 (fun b => !b) (evEq P T cs ds) := by
  show (evEq P T cs ds).map (fun b => V.bool !b) = _
  cases evEq P T cs ds <;> rfl

/-! ### Fields, elements -/
def faP (P : Program) (x : V) : Option (TypeId × Nat) → Option V
  | some (U, off) => if P.cellsOf U = 0 then none else match x with
    | .ref cs => some (.ref (cs.drop off))
    | .ptr l k g o => some (.ptr l k g (o + off))
    | .eptr l k g i o => some (.eptr l k g i (o + off))
    | _ => none
  | none => none
@[simp] theorem evFA_eq (T : TypeId) (x : V) (f : Nat) : evFieldAddr P T x f = faP P x (fieldP P T f) := by
  unfold evFieldAddr faP
  cases fieldP P T f <;> rfl
@[simp] theorem faP_ref (U : TypeId) (off : Nat) (cs : List V) : faP P (.ref cs) (some (U, off)) = if P.cellsOf U = 0 then none else some (.ref (cs.drop off)) := rfl
@[simp] theorem faP_ptr (U : TypeId) (off l k g o : Nat) : faP P (.ptr l k g o) (some (U, off)) = if P.cellsOf U = 0 then none else some (.ptr l k g (o + off)) := rfl
@[simp] theorem faP_eptr (U : TypeId) (off l k g i o : Nat) : faP P (.eptr l k g i o) (some (U, off)) = if P.cellsOf U = 0 then none else some (.eptr l k g i (o + off)) := rfl
def fd1 (P : Program) (x : V) : Option (TypeId × Nat) → Option V
  | some (U, off) => match x with
    | .agg cs => partV P U cs off
    | _ => none
  | none => none
@[simp] theorem evField_eq (T : TypeId) (x : V) (f : Nat) : evField P T x f = fd1 P x (fieldP P T f) := by
  unfold evField fd1
  cases x <;> cases fieldP P T f <;> rfl
@[simp] theorem fd1_agg (U : TypeId) (off : Nat) (cs : List V) : fd1 P (.agg cs) (some (U, off)) = partV P U cs off := rfl
def cb (g off : Nat) : Option (Nat × Res) → Option (List V)
  | some (g', .box cs) => if g' = g then some (cs.drop off) else none
  | _ => none
@[simp] theorem cb_some (g g' off : Nat) (cs : List V) : cb g off (some (g', .box cs)) = if g' = g then some (cs.drop off) else none := rfl
def ce (g i off : Nat) : Option (Nat × Res) → Option (List V)
  | some (g', .vec _ es) => if g' = g then (es[i]?).map (·.drop off) else none
  | _ => none
@[simp] theorem ce_some (g g' i off : Nat) (T : TypeId) (es : List (List V)) : ce g i off (some (g', .vec T es)) = if g' = g then (es[i]?).map (·.drop off) else none := rfl
@[simp] theorem cellsAt_ref (cs : List V) : cellsAt s (.ref cs) = some cs := rfl
@[simp] theorem cellsAt_ptr (l k g off : Nat) : cellsAt s (.ptr l k g off) = cb g off (s.get l k) := by
  unfold cb
  simp only [cellsAt]
  cases s.get l k with
  | none => rfl
  | some z => obtain ⟨g', r⟩ := z; cases r <;> rfl
@[simp] theorem cellsAt_eptr (l k g i off : Nat) : cellsAt s (.eptr l k g i off) = ce g i off (s.get l k) := by
  unfold ce
  simp only [cellsAt]
  cases s.get l k with
  | none => rfl
  | some z => obtain ⟨g', r⟩ := z; cases r <;> rfl
def iv (P : Program) (e : TypeId) (l k g n : Nat) (j : Int) : Option (Nat × Res) → Option V
  | some (g', .vec _ es) => if g' = g ∧ 0 ≤ j ∧ j < n ∧ n ≤ es.length ∧ (es.getD j.toNat []).length = P.cellsOf e ∧ 0 < P.cellsOf e then some (.eptr l k g j.toNat 0) else none
  | _ => none
@[simp] theorem iv_some (e : TypeId) (l k g g' n : Nat) (j : Int) (T : TypeId) (es : List (List V)) : iv P e l k g n j (some (g', .vec T es)) = if g' = g ∧ 0 ≤ j ∧ j < n ∧ n ≤ es.length ∧ (es.getD j.toNat []).length = P.cellsOf e ∧ 0 < P.cellsOf e then some (.eptr l k g j.toNat 0) else none := rfl
def ia (P : Program) (s : St) (x i : V) : Option (Option Nat × TypeId) → Option V
  | some (none, e) => match x, i with
    | .list _ es, .int _ j => if 0 ≤ j ∧ j < es.length ∧ (es.getD j.toNat []).length = P.cellsOf e ∧ 0 < P.cellsOf e then some (.ref (es.getD j.toNat [])) else none
    | .vec l k g n, .int _ j => iv P e l k g n j (s.get l k)
    | _, _ => none
  | some (some n, e) => match x, i with
    | .ref cs, .int _ j => if 0 ≤ j ∧ j < n ∧ 0 < P.cellsOf e then some (.ref (cs.drop (j.toNat * P.cellsOf e))) else none
    | .ptr l k g o, .int _ j => if 0 ≤ j ∧ j < n ∧ 0 < P.cellsOf e then some (.ptr l k g (o + j.toNat * P.cellsOf e)) else none
    | .eptr l k g i' o, .int _ j => if 0 ≤ j ∧ j < n ∧ 0 < P.cellsOf e then some (.eptr l k g i' (o + j.toNat * P.cellsOf e)) else none
    | _, _ => none
  | none => none
@[simp] theorem evIA_eq (T : TypeId) (x i : V) : evIndexAddr P s T x i = ia P s x i (elemT P T) := by
  unfold evIndexAddr ia
  cases elemT P T with
  | none => rfl
  | some z =>
    obtain ⟨n, e⟩ := z
    cases n with
    | some n => cases x <;> cases i <;> rfl
    | none =>
      cases x with
      | vec l k g n =>
        cases i with
        | int q j =>
          simp only [iv]
          cases s.get l k with
          | none => rfl
          | some z => obtain ⟨g', r⟩ := z; cases r <;> rfl
        | _ => rfl
      | _ => cases i <;> rfl
@[simp] theorem ia_list (e : TypeId) (b : Bool) (es : List (List V)) (k : IntKind) (j : Int) : ia P s (.list b es) (.int k j) (some (none, e)) = if 0 ≤ j ∧ j < es.length ∧ (es.getD j.toNat []).length = P.cellsOf e ∧ 0 < P.cellsOf e then some (.ref (es.getD j.toNat [])) else none := rfl
@[simp] theorem ia_vec (e : TypeId) (l q g n : Nat) (k : IntKind) (j : Int) : ia P s (.vec l q g n) (.int k j) (some (none, e)) = iv P e l q g n j (s.get l q) := rfl
@[simp] theorem ia_ref (n : Nat) (e : TypeId) (cs : List V) (k : IntKind) (j : Int) : ia P s (.ref cs) (.int k j) (some (some n, e)) = if 0 ≤ j ∧ j < n ∧ 0 < P.cellsOf e then some (.ref (cs.drop (j.toNat * P.cellsOf e))) else none := rfl
@[simp] theorem ia_ptr (n : Nat) (e : TypeId) (l q g o : Nat) (k : IntKind) (j : Int) : ia P s (.ptr l q g o) (.int k j) (some (some n, e)) = if 0 ≤ j ∧ j < n ∧ 0 < P.cellsOf e then some (.ptr l q g (o + j.toNat * P.cellsOf e)) else none := rfl
@[simp] theorem ia_eptr (n : Nat) (e : TypeId) (l q g i o : Nat) (k : IntKind) (j : Int) : ia P s (.eptr l q g i o) (.int k j) (some (some n, e)) = if 0 ≤ j ∧ j < n ∧ 0 < P.cellsOf e then some (.eptr l q g i (o + j.toNat * P.cellsOf e)) else none := rfl
def ix (P : Program) (x i : V) : Option (Option Nat × TypeId) → Option V
  | some (some n, e) => match x, i with
    | .agg cs, .int _ j => if 0 ≤ j ∧ j < n ∧ 0 < P.cellsOf e then partV P e cs (j.toNat * P.cellsOf e) else none
    | _, _ => none
  | _ => none
@[simp] theorem evIndex_eq (T : TypeId) (x i : V) : evIndex P T x i = ix P x i (elemT P T) := by
  unfold evIndex ix
  cases elemT P T with
  | none => rfl
  | some z => obtain ⟨n, e⟩ := z; cases n <;> cases x <;> cases i <;> rfl
@[simp] theorem ix_agg (n : Nat) (e : TypeId) (cs : List V) (k : IntKind) (j : Int) : ix P (.agg cs) (.int k j) (some (some n, e)) = if 0 ≤ j ∧ j < n ∧ 0 < P.cellsOf e then partV P e cs (j.toNat * P.cellsOf e) else none := rfl
theorem sliceT_spec {T : TypeId} (h : sliceT P T = true) : ∃ e, P.underlying T = some (.slice e) := by
  unfold sliceT at h
  split at h
  · rename_i e he; exact ⟨e, he⟩
  · cases h
@[simp] theorem evLen_list {T : TypeId} (h : sliceT P T = true) (b : Bool) (es : List (List V)) : evLen P T (.list b es) = some (.int .i64 es.length) := by
  obtain ⟨e, he⟩ := sliceT_spec h; simp [evLen, he]
@[simp] theorem evLen_vec {T : TypeId} (h : sliceT P T = true) (l k g n : Nat) : evLen P T (.vec l k g n) = some (.int .i64 n) := by
  obtain ⟨e, he⟩ := sliceT_spec h; simp [evLen, he]
@[simp] theorem evLen_nil {T : TypeId} (h : sliceT P T = true) : evLen P T .nil = some (.int .i64 0) := by
  obtain ⟨e, he⟩ := sliceT_spec h; simp [evLen, he]

/-! ### Building -/
def fv (place : Nat → Option (Nat × Nat)) (cs : List V) (v : V) (rest : List (Nat × V)) : Option (Nat × Nat) → Option (List V)
  | none => none
  | some (off, size) => if (cellsV v).length = size ∧ off + (cellsV v).length ≤ cs.length then fillV place (spliceL cs off (cellsV v)) rest else none
@[simp] theorem fillV_nil (place : Nat → Option (Nat × Nat)) (cs : List V) : fillV place cs [] = some cs := rfl
@[simp] theorem fillV_cons (place : Nat → Option (Nat × Nat)) (cs : List V) (i : Nat) (v : V) (rest : List (Nat × V)) : fillV place cs ((i, v) :: rest) = fv place cs v rest (place i) := by
  simp only [fillV]; unfold fv; cases place i <;> rfl
@[simp] theorem fv_some (place : Nat → Option (Nat × Nat)) (cs : List V) (v : V) (rest : List (Nat × V)) (off size : Nat) : fv place cs v rest (some (off, size)) = if (cellsV v).length = size ∧ off + (cellsV v).length ≤ cs.length then fillV place (spliceL cs off (cellsV v)) rest else none := rfl
attribute [simp] spliceL
@[simp] theorem chunks_zero (size : Nat) (cs : List V) : chunks size cs 0 = [] := rfl
@[simp] theorem chunks_succ (size : Nat) (cs : List V) (n : Nat) : chunks size cs (n + 1) = cs.take size :: chunks size (cs.drop size) n := rfl
def ch1 (size len : Nat) : Option (List V) → Option V
  | some cs => some (.list true (chunks size cs len))
  | none => none
@[simp] theorem ch1_some (size len : Nat) (cs : List V) : ch1 size len (some cs) = some (.list true (chunks size cs len)) := rfl
def bsz (P : Program) (e : TypeId) (len : Nat) (parts : List (Nat × V)) : Option (List V) → Option V
  | some z => if (parts.all fun p => flatOk p.2) = true ∧ z.length = P.cellsOf e ∧ 0 < P.cellsOf e ∧ len * P.cellsOf e ≤ 2 ^ 24 then
      ch1 (P.cellsOf e) len (fillV (fun i => some (i * P.cellsOf e, P.cellsOf e)) (List.replicate len z).flatten parts) else none
  | none => none
@[simp] theorem bsz_some (e : TypeId) (len : Nat) (parts : List (Nat × V)) (z : List V) : bsz P e len parts (some z) = if (parts.all fun p => flatOk p.2) = true ∧ z.length = P.cellsOf e ∧ 0 < P.cellsOf e ∧ len * P.cellsOf e ≤ 2 ^ 24 then
      ch1 (P.cellsOf e) len (fillV (fun i => some (i * P.cellsOf e, P.cellsOf e)) (List.replicate len z).flatten parts) else none := rfl
def bsl (P : Program) (len : Nat) (parts : List (Nat × V)) : Option (Option Nat × TypeId) → Option V
  | some (none, e) => bsz P e len parts (zeroC P e)
  | _ => none
@[simp] theorem bsl_some (e : TypeId) (len : Nat) (parts : List (Nat × V)) : bsl P len parts (some (none, e)) = bsz P e len parts (zeroC P e) := rfl
@[simp] theorem evBS_eq (T : TypeId) (len : Nat) (parts : List (Nat × V)) : evBuildSlice P T len parts = bsl P len parts (elemT P T) := by
  unfold evBuildSlice bsl
  cases elemT P T with
  | none => rfl
  | some z =>
    obtain ⟨n, e⟩ := z
    cases n with
    | some n => rfl
    | none =>
      simp only [bsz]
      cases zeroC P e with
      | none => rfl
      | some z =>
        simp only
        split
        · cases fillV (fun i => some (i * P.cellsOf e, P.cellsOf e)) (List.replicate len z).flatten parts <;> rfl
        · rfl
def fn2 (f : FuncId) : Option (List V) → Option (List V) → Option V
  | some a, some b => some (.fn f a b)
  | _, _ => none
@[simp] theorem fn2_some (f : FuncId) (a b : List V) : fn2 f (some a) (some b) = some (.fn f a b) := rfl
@[simp] theorem evP_mf (f : FuncId) (x y : Array Operand) (r : Operand → Option V) : evP P (mkO (.makeFunc (.func f) x y)) s r = fn2 f (mapO r x.toList) (mapO r y.toList) := by
  show ((x.toList.mapM r).bind fun a => (y.toList.mapM r).bind fun b => some (V.fn f a b)) = _
  rw [← mapO_eq, ← mapO_eq]
  cases mapO r x.toList <;> cases mapO r y.toList <;> rfl
@[simp] theorem evP_max (x y : Operand) (Ts : Array TypeId) (r : Operand → Option V) : evP P (mkO (.call ⟨.builtin .max, #[x, y], Ts⟩)) s r = o2 evMax (r x) (r y) := bind_o2 _ _ _
@[simp] theorem evP_min (x y : Operand) (Ts : Array TypeId) (r : Operand → Option V) : evP P (mkO (.call ⟨.builtin .min, #[x, y], Ts⟩)) s r = o2 evMin (r x) (r y) := bind_o2 _ _ _
@[simp] theorem evMax_int (k j : IntKind) (m n : Int) : evMax (.int k m) (.int j n) = if k = j then some (.int k (if n > m then n else m)) else none := rfl
@[simp] theorem evMin_int (k j : IntKind) (m n : Int) : evMin (.int k m) (.int j n) = if k = j then some (.int k (if n < m then n else m)) else none := rfl
end Go.Pg
/- Rows under way, and what they are once their call is over. No program in sight. -/
namespace Go.Pg
variable {P : Program} {E : XE} {st : XS} {fr : Fr} {s : St}

def pv (k γ : Nat) : List (List V) → V
  | [] => .nil
  | e :: es => .vec 0 k γ (e :: es).length
def pl (k γ : Nat) (T : TypeId) : List (List V) → Level
  | [] => []
  | e :: es => [(k, γ, .vec T (e :: es))]
def sl : List (List V) → V
  | [] => .nil
  | e :: es => .list false (e :: es)
@[simp] theorem pv_nil (k γ : Nat) : pv k γ [] = .nil := rfl
@[simp] theorem pl_nil (k γ : Nat) (T : TypeId) : pl k γ T [] = [] := rfl
@[simp] theorem pl_snoc (k γ : Nat) (T : TypeId) (es : List (List V)) (y : List V) (ys : List (List V)) : pl k γ T (es ++ y :: ys) = [(k, γ, .vec T (es ++ y :: ys))] := by cases es <;> rfl
@[simp] theorem pl_cons (k γ : Nat) (T : TypeId) (y : List V) (ys : List (List V)) : pl k γ T (y :: ys) = [(k, γ, .vec T (y :: ys))] := rfl
@[simp] theorem kl_pl (k γ : Nat) (T : TypeId) (es : List (List V)) : kl k [] ((pl k γ T es).get k) = pl k γ T es := by
  cases es with
  | nil => rfl
  | cons e es => simp
@[simp] theorem pl_other {k j : Nat} (γ : Nat) (T : TypeId) (es : List (List V)) (h : j ≠ k) : (pl k γ T es).get j = none := by
  cases es with
  | nil => rfl
  | cons e es => simp [h]
@[simp] theorem apV_pv (e k c γ : Nat) (loc : Level) (es : List (List V)) (y : List V) (ys : List (List V)) (hl : Level.get loc k = (pl k γ e es).get k) (h1 : es.all (fun y => y.length == P.cellsOf e) = true) (h2 : appOK P e es.length (y :: ys) = true) :
    apV P e k c fr ⟨[], loc⟩ (pv k γ es) (y :: ys) = some ⟨c + 1, (k, true, pv k c (es ++ y :: ys)) :: fr, ⟨[], (k, c, .vec e (es ++ y :: ys)) :: loc⟩⟩ := by
  cases es with
  | nil =>
    simp only [List.length_nil] at h2
    simp [h2, pv]
  | cons z es =>
    have hl : Level.get loc k = some (γ, .vec e (z :: es)) := by rw [hl]; simp
    simp only [pv, apV_vec, get_mk, List.length_nil, if_true, hl, cutO_vec, cutN_full, apW_some, true_and, h1, h2]
    simp [Nat.add_comm, Nat.add_left_comm]
theorem closeX_pv {T : TypeId} (f : Nat) (loc : Level) (k γ : Nat) (es : List (List V)) (hl : Level.get loc k = (pl k γ T es).get k) : closeX ⟨[], loc⟩ (f + 1) (pv k γ es) = some (sl es) := by
  cases es with
  | nil => rfl
  | cons z es =>
    have hl : Level.get loc k = some (γ, .vec T (z :: es)) := by rw [hl]; simp
    simp only [pv, closeX_vec, List.length_nil, if_true, hl, cv1_some, sl]
    simp
@[simp] theorem closeX_pl (f k γ : Nat) (T : TypeId) (es : List (List V)) : closeX ⟨[], pl k γ T es⟩ (f + 1) (pv k γ es) = some (sl es) := closeX_pv (T := T) f _ k γ es rfl
@[simp] theorem evLen_sl {T : TypeId} (h : sliceT P T = true) (es : List (List V)) : evLen P T (sl es) = some (.int .i64 es.length) := by
  cases es with
  | nil => exact evLen_nil h
  | cons e es => exact evLen_list h _ _
@[simp] theorem evLen_pv {T : TypeId} (h : sliceT P T = true) (k γ : Nat) (es : List (List V)) : evLen P T (pv k γ es) = some (.int .i64 es.length) := by
  cases es with
  | nil => exact evLen_nil h
  | cons e es => exact evLen_vec h _ _ _ _
@[simp] theorem ia_sl (e : TypeId) (es : List (List V)) (k : IntKind) (j : Int) : ia P s (sl es) (.int k j) (some (none, e)) = if 0 ≤ j ∧ j < es.length ∧ (es.getD j.toNat []).length = P.cellsOf e ∧ 0 < P.cellsOf e then some (.ref (es.getD j.toNat [])) else none := by
  cases es with
  | nil =>
    rw [if_neg (by simp only [List.length_nil]; omega)]
    rfl
  | cons z es => rfl
@[simp] theorem closed_sl (f : Nat) (es : List (List V)) : closedV (f + 1) (sl es) = es.all fun e => e.all (closedV f) := by cases es <;> rfl
@[simp] theorem weakN_sl (es : List (List V)) : weakN (sl es) = .list false es := by cases es <;> rfl
@[simp] theorem weakM_sl (es : List (List V)) : weakM (sl es) = .list false es := by cases es <;> rfl
@[simp] theorem weak_sl (es : List (List V)) : weakV (sl es) = sl es := by cases es <;> rfl
@[simp] theorem weakC_sl (es : List (List V)) : weakC (sl es) = sl es := by cases es <;> rfl
@[simp] theorem cellsV_sl (es : List (List V)) : cellsV (sl es) = [sl es] := by cases es <;> rfl
@[simp] theorem flatOk_sl (es : List (List V)) : flatOk (sl es) = true := by cases es <;> rfl
@[simp] theorem cellsV_pv (k γ : Nat) (es : List (List V)) : cellsV (pv k γ es) = [pv k γ es] := by cases es <;> rfl
@[simp] theorem flatOk_pv (k γ : Nat) (es : List (List V)) : flatOk (pv k γ es) = true := by cases es <;> rfl
@[simp] theorem elemsOf_sl (es : List (List V)) : elemsOf s (sl es) = some es := by cases es <;> rfl
@[simp] theorem closeX_sl (f : Nat) (es : List (List V)) : closeX s (f + 1) (sl es) = some (sl es) := by cases es <;> rfl
@[simp] theorem placeV_sl (es : List (List V)) : placeV (some (sl es)) = [] := by cases es <;> rfl
@[simp] theorem placeI_sl (es : List (List V)) : placeI (some (sl es)) = [] := by cases es <;> rfl

/-! ### Appends that come in any order -/
noncomputable def adV (P : Program) (e : TypeId) (d c : Nat) (fr : Fr) (s : St) (xv : V) (ys : List (List V)) : Option (XS × Places) := match newE xv ys with
  | some es => if es.all (fun y => y.length == P.cellsOf e) = true ∧ appOK P e es.length ys = true then some (⟨c + 1, (d, true, .vec s.up.length d c (es.length + ys.length)) :: fr, s.put s.up.length d c (.vec e (es ++ ys))⟩, [(s.up.length, d), (s.up.length, d + apK)]) else none
  | none => match xv with
    | .vec l q γ n => wp [(l, q), (l, q + apK)] (apW P e d c fr s l q γ n ys (cutO n ys (s.get l q)))
    | _ => none
noncomputable def ad4 (P : Program) (e : TypeId) (d c : Nat) (fr : Fr) (s : St) (xv : V) : Option (List (List V)) → Option (XS × Places)
  | some ys => adV P e d c fr s xv ys
  | none => none
@[simp] theorem ad4_some (e : TypeId) (d c : Nat) (xv : V) (ys : List (List V)) : ad4 P e d c fr s xv (some ys) = adV P e d c fr s xv ys := rfl
noncomputable def ad3 (P : Program) (d c : Nat) (fr : Fr) (s : St) : Option (Option Nat × TypeId) → Option V → Option V → Option (XS × Places)
  | some (none, e), some xv, some yv => ad4 P e d c fr s xv (elemsOf s yv)
  | _, _, _ => none
@[simp] theorem ad3_some (d c : Nat) (e : TypeId) (xv yv : V) : ad3 P d c fr s (some (none, e)) (some xv) (some yv) = ad4 P e d c fr s xv (elemsOf s yv) := rfl
@[simp] theorem elemsL_list (b : Bool) (es : List (List V)) : elemsL (.list b es) = some es := rfl
@[simp] theorem elemsL_nil : elemsL .nil = some [] := rfl
@[simp] theorem elemsL_sl (es : List (List V)) : elemsL (sl es) = some es := by cases es <;> rfl
@[simp] theorem step0_app (d : Tmp) (c : Nat) (x y : Operand) (T : TypeId) : stepK0 P E (some d) (.app [x, y] [T, T]) ⟨c, fr, s⟩ = ad3 P d c fr s (elemT P T) (rdX fr x) (rdX fr y) := by
  show xAppD P (some d) [x, y] [T, T] _ = _
  unfold xAppD xAppG
  simp only [Nat.beq_refl]
  cases hT : elemT P T with
  | none => cases rdX fr x <;> cases rdX fr y <;> rfl
  | some p =>
    obtain ⟨k, e⟩ := p
    cases k with
    | some k => cases rdX fr x <;> cases rdX fr y <;> rfl
    | none =>
      cases rdX fr x with
      | none => rfl
      | some xv =>
        cases rdX fr y with
        | none => rfl
        | some yv =>
          simp only [ad3_some]
          cases elemsOf s yv with
          | none => rfl
          | some ys =>
            simp only [ad4_some, adV]
            cases newE xv ys with
            | some es =>
              simp only [ifB, Bool.and_eq_true, List.length_append]
              by_cases hC : es.all (fun y => y.length == P.cellsOf e) = true ∧ appOK P e es.length ys = true
              · rw [if_pos hC, if_pos hC]
              · rw [if_neg hC, if_neg hC]
            | none =>
              simp only
              unfold xAppV
              cases xv with
              | vec l q γ n =>
                simp only
                cases cutO n ys (s.get l q) with
                | none => rfl
                | some z =>
                  obtain ⟨γ', r⟩ := z
                  cases r with
                  | vec W es =>
                    simp only [ifB, Bool.and_eq_true, List.length_append, apW_some, Nat.beq_eq, and_assoc]
                    by_cases hC : γ' = γ ∧ W = e ∧ n = es.length ∧ es.all (fun y => y.length == P.cellsOf e) = true ∧ appOK P e es.length ys = true
                    · rw [if_pos hC, if_pos hC]; rfl
                    · rw [if_neg hC, if_neg hC]; rfl
                  | _ => rfl
              | _ => rfl
@[simp] theorem adV_pv (e k c γ : Nat) (loc : Level) (es : List (List V)) (y : List V) (ys : List (List V)) (hl : Level.get loc k = (pl k γ e es).get k) (h1 : es.all (fun y => y.length == P.cellsOf e) = true) (h2 : appOK P e es.length (y :: ys) = true) :
    adV P e k c fr ⟨[], loc⟩ (pv k γ es) (y :: ys) = some (⟨c + 1, (k, true, pv k c (es ++ y :: ys)) :: fr, ⟨[], (k, c, .vec e (es ++ y :: ys)) :: loc⟩⟩, [(0, k), (0, k + apK)]) := by
  cases es with
  | nil =>
    simp only [List.length_nil] at h2
    simp [adV, newE, h2, pv]
  | cons z es =>
    have hl : Level.get loc k = some (γ, .vec e (z :: es)) := by rw [hl]; simp
    simp only [pv, adV, newE, get_mk, List.length_nil, if_true, hl, cutO_vec, cutN_full, apW_some, true_and, h1, h2]
    simp [Nat.add_comm, Nat.add_left_comm]
end Go.Pg
/- Equations by which open walks are worked out: calls whose arguments point to places. No program in sight. -/
namespace Go.Pg
variable {P : Program} {E : XE} {st : XS} {fr : Fr} {s : St}

theorem unsnoc_one {α : Type} (x : α) : unsnoc [x] = some ([], x) := rfl
def un1 {α : Type} (x : α) : Option (List α × α) → Option (List α × α)
  | some (a, b) => some (x :: a, b)
  | none => none
@[simp] theorem un1_some {α : Type} (x : α) (a : List α) (b : α) : un1 x (some (a, b)) = some (x :: a, b) := rfl
theorem unsnoc_more {α : Type} (x y : α) (l : List α) : unsnoc (x :: y :: l) = un1 x (unsnoc (y :: l)) := by
  simp only [unsnoc]
  unfold un1
  cases unsnoc (y :: l) <;> rfl
attribute [simp] unsnoc_one unsnoc_more
noncomputable def finU (d : Option Tmp) (fr : Fr) (c : Nat) (r : V) : Option (List Level × Level) → Option XS
  | some (u, l) => some ⟨c, putD fr d true r, ⟨u, l⟩⟩
  | none => none
@[simp] theorem finU_some (d : Tmp) (c : Nat) (r : V) (u : List Level) (l : Level) : finU (some d) fr c r (some (u, l)) = some ⟨c, (d, true, r) :: fr, ⟨u, l⟩⟩ := rfl
@[simp] theorem finU_no (c : Nat) (r : V) (u : List Level) (l : Level) : finU none fr c r (some (u, l)) = some ⟨c, fr, ⟨u, l⟩⟩ := rfl
noncomputable def finT (d : Option Tmp) (fr : Fr) (st : XS) : Option V → Option XS
  | some r => finU d fr st.c r (unsnoc (st.s.up.map (shutLv st.s)))
  | none => none
@[simp] theorem finT_some (d : Option Tmp) (c : Nat) (fr' : Fr) (up : List Level) (loc : Level) (r : V) : finT d fr ⟨c, fr', ⟨up, loc⟩⟩ (some r) = finU d fr c r (unsnoc (up.map (shutLv ⟨up, loc⟩))) := rfl
noncomputable def clX (s : St) : Option V → Option V
  | some r => closeX s 4 r
  | none => none
@[simp] theorem clX_some (r : V) : clX s (some r) = closeX s 4 r := rfl
noncomputable def finS (P : Program) (d : Option Tmp) (fr : Fr) (rs : List ResultVar) (r : Option (Exit × XS)) : Option XS := match r with
  | some (.ret, st) => finT d fr st (clX st.s (resV P rs st.fr st.s))
  | some (.normal, st) => finT d fr st (clX st.s (resV P rs st.fr st.s))
  | _ => none
@[simp] theorem finS_ret (d : Option Tmp) (rs : List ResultVar) : finS P d fr rs (some (.ret, st)) = finT d fr st (clX st.s (resV P rs st.fr st.s)) := rfl
@[simp] theorem finS_normal (d : Option Tmp) (rs : List ResultVar) : finS P d fr rs (some (.normal, st)) = finT d fr st (clX st.s (resV P rs st.fr st.s)) := rfl
@[simp] theorem closed_ptr (f l k g o : Nat) : closedV (f + 1) (.ptr l k g o) = false := rfl
@[simp] theorem closed_vec (f l k g o : Nat) : closedV (f + 1) (.vec l k g o) = false := rfl
@[simp] theorem closed_mp (f l k g : Nat) : closedV (f + 1) (.mp l k g) = false := rfl
@[simp] theorem weak_ptr (l k g o : Nat) : weakV (.ptr l k g o) = .ptr l k g o := rfl
@[simp] theorem weak_vec (l k g o : Nat) : weakV (.vec l k g o) = .vec l k g o := rfl
@[simp] theorem weak_ref (cs : List V) : weakV (.ref cs) = .ref cs := rfl
@[simp] theorem bx1_fn (d c : Nat) (f : FuncId) (x y : List V) : bx1 d c fr s (some (.fn f x y)) = some ⟨c + 1, (d, true, .ptr s.up.length d c 0) :: fr, s.put s.up.length d c (.box [.fn f x y])⟩ := rfl
@[simp] theorem bx1_ptr (d c : Nat) (l k g o : Nat) : bx1 d c fr s (some (.ptr l k g o)) = some ⟨c + 1, (d, true, .ptr s.up.length d c 0) :: fr, s.put s.up.length d c (.box [.ptr l k g o])⟩ := rfl
@[simp] theorem bx1_sl (d c : Nat) (es : List (List V)) : bx1 d c fr s (some (sl es)) = some ⟨c + 1, (d, true, .ptr s.up.length d c 0) :: fr, s.put s.up.length d c (.box [sl es])⟩ := by cases es <;> rfl
@[simp] theorem shutLv_nil : shutLv s [] = [] := rfl
@[simp] theorem shutLv_cons (k g : Nat) (r : Res) (L : Level) : shutLv s ((k, g, r) :: L) = (k, g, shutRes s r) :: shutLv s L := rfl
def sr1 (r : Res) : Option (List V) → Res
  | some ds => .box ds
  | none => r
@[simp] theorem sr1_some (r : Res) (ds : List V) : sr1 r (some ds) = .box ds := rfl
theorem shutRes_box (cs : List V) : shutRes s (.box cs) = sr1 (.box cs) (mapOO (closeOX s) cs) := by
  unfold shutRes closeResX sr1
  simp only
  cases mapOO (closeOX s) cs <;> rfl
attribute [simp] shutRes_box
theorem mapOO_nil' (f : V → Option V) : mapOO f [] = some [] := rfl
theorem mapOO_cons' (f : V → Option V) (v : V) (l : List V) : mapOO f (v :: l) = mc2 (f v) (mapOO f l) := by
  simp only [mapOO]
  cases f v with
  | none => rfl
  | some x => cases mapOO f l <;> rfl
attribute [simp] mapOO_nil' mapOO_cons'
@[simp] theorem closeOX_int (k : IntKind) (n : Int) : closeOX s (.int k n) = some (.int k n) := rfl
@[simp] theorem closeOX_bool (b : Bool) : closeOX s (.bool b) = some (.bool b) := rfl
@[simp] theorem closeOX_list (b : Bool) (es : List (List V)) : closeOX s (.list b es) = some (.list b es) := rfl
@[simp] theorem closeOX_nil : closeOX s .nil = some .nil := rfl
@[simp] theorem closeOX_sl (es : List (List V)) : closeOX s (sl es) = some (sl es) := by cases es <;> rfl
@[simp] theorem closeOX_fn (f : FuncId) (x y : List V) : closeOX s (.fn f x y) = closeX s 4 (.fn f x y) := rfl
@[simp] theorem closeOX_ptr (l k g o : Nat) : closeOX s (.ptr l k g o) = closeX s 4 (.ptr l k g o) := rfl
@[simp] theorem closeOX_vec (l k g o : Nat) : closeOX s (.vec l k g o) = closeX s 4 (.vec l k g o) := rfl
@[simp] theorem closeOX_agg (cs : List V) : closeOX s (.agg cs) = closeX s 4 (.agg cs) := rfl
@[simp] theorem closeX_fn (f : Nat) (g : FuncId) (x y : List V) : closeX s (f + 1) (.fn g x y) = fn2 g (mapC (closeX s f) x) (mapC (closeX s f) y) := by
  simp only [closeX, mapC_eq, fn2]
  cases mapC (closeX s f) x <;> cases mapC (closeX s f) y <;> rfl
def cp1 (f : List V → Option (List V)) (g off : Nat) : Option (Nat × Res) → Option V
  | some (g', .box cs) => if g' = g then (f cs).map fun ds => .ref (ds.drop off) else none
  | _ => none
@[simp] theorem closeX_ptr (f : Nat) (up : List Level) (loc : Level) (l k g off : Nat) : closeX ⟨up, loc⟩ (f + 1) (.ptr l k g off) = if l = up.length then cp1 (mapC (closeX ⟨up, loc⟩ f)) g off (loc.get k) else some (.ptr l k g off) := by
  simp only [closeX, mapC_eq]
  split
  · cases loc.get k with
    | none => rfl
    | some z => obtain ⟨g', r⟩ := z; cases r <;> rfl
  · rfl

/-! ### Calls whose answer is stored at once -/
noncomputable def ow3 (d c : Nat) (fr : Fr) (s : St) : Option V → Option XS
  | some r => some ⟨c + 1, (d, true, r) :: fr, s.put s.up.length d c .dead⟩
  | none => none
@[simp] theorem ow3_some (d c : Nat) (r : V) : ow3 d c fr s (some r) = some ⟨c + 1, (d, true, r) :: fr, s.put s.up.length d c .dead⟩ := rfl
theorem sr_dead : shutRes s .dead = .dead := rfl
attribute [simp] sr_dead
end Go.Pg
