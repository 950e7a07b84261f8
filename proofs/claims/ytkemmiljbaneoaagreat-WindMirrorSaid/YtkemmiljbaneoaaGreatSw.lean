/- Rows told as lists, by simp. No program in sight. -/
import Derived.Test.YtkemmiljbaneoaaGreatSx
namespace Go.Pg
variable {P:Program} {l k:Nat} {o:Option (Nat × Res)}
@[simp] theorem toldO_nil (st:XS):toldO [] st = st:=rfl
@[simp] theorem toldO_cons (k:Nat) (ks:List Nat) (c:Nat) (fr:Fr) (up:List Level) (loc:Level):toldO (k :: ks) ⟨c,fr,⟨up,loc⟩⟩ = toldO ks ⟨c,toldF up.length k (loc.get k) fr,⟨up,toldL up.length k (loc.get k) loc⟩⟩:=rfl
@[simp] theorem toldF_nil:toldF l k o [] = []:=rfl
@[simp] theorem toldF_cons (j:Nat) (c:Bool) (v:V) (fr:Fr):toldF l k o ((j,c,v) :: fr) = (j,c,toldV l k o 3 v) :: toldF l k o fr:=rfl
@[simp] theorem toldL_nil:toldL l k o [] = []:=rfl
@[simp] theorem toldL_cons (j g:Nat) (r:Res) (L:Level):toldL l k o ((j,g,r) :: L) = if j = k then toldL l k o L else (j,g,toldR l k o r) :: toldL l k o L:=rfl
@[simp] theorem toldL_pl (γ:Nat) (T:TypeId) (es:List (List V)) (L:Level):toldL l k o (pl k γ T es ++ L) = toldL l k o L:=by cases es <;> simp
@[simp] theorem toldL_pl1 (γ:Nat) (T:TypeId) (es:List (List V)):toldL l k o (pl k γ T es) = []:=by cases es <;> simp
theorem told_closed:∀ (f g:Nat) (v:V),closedV g v = true→toldV l k o f v = v
 | 0,_,_,_=>rfl
 | f + 1,0,v,h=>by cases h
 | f + 1,g + 1,v,h=>by
  have lst:∀ cs:List V,cs.all (closedV g) = true→cs.map (toldV l k o f) = cs:=by
   intro cs h
   conv=>rhs; rw [← List.map_id cs]
   exact List.map_congr_left fun x hx=>told_closed f g x (List.all_eq_true.1 h x hx)
  cases v with
  | vec _ _ _ _=>cases h
  | ptr _ _ _ _=>cases h
  | agg cs=>simp only [toldV]; rw [lst cs h]
  | tup cs=>simp only [toldV]; rw [lst cs h]
  | _=>rfl
theorem told_cells {cs:List V} (h:cs.all (closedV 9) = true) (f:Nat):cs.map (toldV l k o f) = cs:=by
 conv=>rhs; rw [← List.map_id cs]
 exact List.map_congr_left fun x hx=>told_closed f 9 x (List.all_eq_true.1 h x hx)
theorem told_rows {es:List (List V)} (h:(es.all fun e=>e.all (closedV 9)) = true) (f:Nat):es.map (List.map (toldV l k o f)) = es:=by
 conv=>rhs; rw [← List.map_id es]
 exact List.map_congr_left fun x hx=>told_cells (List.all_eq_true.1 h x hx) f
@[simp] theorem toldL_pl2 {j:Nat} (h:j ≠ k) (γ:Nat) (T:TypeId) (es:List (List V)) (L:Level) (hc:(es.all fun e=>e.all (closedV 9)) = true):toldL l k o (pl j γ T es ++ L) = pl j γ T es ++ toldL l k o L:=by
 cases es with
 | nil=>rfl
 | cons e es =>
  have q:=told_rows (l:=l) (k:=k) (o:=o) hc 3
  simp only [List.map_cons] at q
  simp [h,toldR,q]
@[simp] theorem toldL_pl3 {j:Nat} (h:j ≠ k) (γ:Nat) (T:TypeId) (es:List (List V)) (hc:(es.all fun e=>e.all (closedV 9)) = true):toldL l k o (pl j γ T es) = pl j γ T es:=by
 have:=toldL_pl2 (l:=l) (o:=o) h γ T es [] hc
 simpa using this
@[simp] theorem toldR_box (cs:List V):toldR l k o (.box cs) = .box (cs.map (toldV l k o 3)):=rfl
@[simp] theorem toldR_vec (T:TypeId) (es:List (List V)):toldR l k o (.vec T es) = .vec T (es.map (List.map (toldV l k o 3))):=rfl
@[simp] theorem toldR_map (es:List (V × V)):toldR l k o (.map es) = .map es:=rfl
@[simp] theorem toldR_dead:toldR l k o .dead = .dead:=rfl
@[simp] theorem toldR_loop (fr:List (Nat × Bool × V)) (ps:List Tmp) (asg body:Code) (N:Nat) (st:LS):toldR l k o (.loop fr ps asg body N st) = .loop fr ps asg body N st:=rfl
@[simp] theorem toldV_int (f:Nat) (i:IntKind) (n:Int):toldV l k o f (.int i n) = .int i n:=by cases f <;> rfl
@[simp] theorem toldV_bool (f:Nat) (b:Bool):toldV l k o f (.bool b) = .bool b:=by cases f <;> rfl
@[simp] theorem toldV_raw (f:Nat) (v:Value):toldV l k o f (.raw v) = .raw v:=by cases f <;> rfl
@[simp] theorem toldV_list (f:Nat) (b:Bool) (es:List (List V)):toldV l k o f (.list b es) = .list b es:=by cases f <;> rfl
@[simp] theorem toldV_sl (f:Nat) (es:List (List V)):toldV l k o f (sl es) = sl es:=by cases f <;> cases es <;> rfl
@[simp] theorem toldV_ref (f:Nat) (cs:List V):toldV l k o f (.ref cs) = .ref cs:=by cases f <;> rfl
theorem toldV_ptr (f a b c d:Nat) (h:¬ (a = l∧b = k)):toldV l k o f (.ptr a b c d) = .ptr a b c d:=by
 cases f with
 | zero=>rfl
 | succ f =>
  simp only [toldV]
  split
  ·rw [if_neg fun hh=>h ⟨hh.1,hh.2.1⟩]
  ·rfl
@[simp] theorem toldV_ptrK (f a b c d:Nat) (h:¬ b = k):toldV l k o f (.ptr a b c d) = .ptr a b c d:=toldV_ptr f a b c d fun hh=>h hh.2
@[simp] theorem toldV_ptrL (f a b c d:Nat) (h:¬ a = l):toldV l k o f (.ptr a b c d) = .ptr a b c d:=toldV_ptr f a b c d fun hh=>h hh.1
@[simp] theorem toldV_ptrV (γ:Nat) (T:TypeId) (es:List (List V)) (f a b c d:Nat):toldV l k (some (γ,.vec T es)) f (.ptr a b c d) = .ptr a b c d:=by cases f <;> rfl
@[simp] theorem toldV_ptrB (γ:Nat) (cs:List V) (f a b g off:Nat):toldV l k (some (γ,.box cs)) (f + 1) (.ptr a b g off) = if a = l∧b = k∧g = γ then .ref ((cs.map anyM).drop off) else .ptr a b g off:=rfl
@[simp] theorem anyM_int (q:IntKind) (n:Int):anyM (.int q n) = .int q n:=rfl
@[simp] theorem anyM_bool (b:Bool):anyM (.bool b) = .bool b:=rfl
@[simp] theorem anyM_list (b:Bool) (es:List (List V)):anyM (.list b es) = .list b es:=rfl
@[simp] theorem anyM_sl (es:List (List V)):anyM (sl es) = sl es:=by cases es <;> rfl
@[simp] theorem anyM_nil:anyM .nil = .nil:=rfl
@[simp] theorem anyM_mp (a b c:Nat):anyM (.mp a b c) = .any:=rfl
@[simp] theorem anyM_any:anyM .any = .any:=rfl
@[simp] theorem closed_any (f:Nat):closedV (f + 1) .any = true:=rfl
@[simp] theorem weakV_any:weakV .any = .any:=rfl
@[simp] theorem weakC_any:weakC .any = .any:=rfl
@[simp] theorem toldV_any (f:Nat):toldV l k o f .any = .any:=by cases f <;> rfl
@[simp] theorem toldV_mp (f a b c:Nat):toldV l k o f (.mp a b c) = .mp a b c:=by cases f <;> rfl
@[simp] theorem toldV_yld (f a b c:Nat):toldV l k o f (.yld a b c) = .yld a b c:=by cases f <;> rfl
@[simp] theorem toldV_fn (f:Nat) (g:FuncId) (xs ys:List V):toldV l k o f (.fn g xs ys) = .fn g xs ys:=by cases f <;> rfl
@[simp] theorem toldV_nil (f:Nat):toldV l k o f .nil = .nil:=by cases f <;> rfl
@[simp] theorem toldV_agg (f:Nat) (cs:List V):toldV l k o (f + 1) (.agg cs) = .agg (cs.map (toldV l k o f)):=rfl
@[simp] theorem toldV_tup (f:Nat) (cs:List V):toldV l k o (f + 1) (.tup cs) = .tup (cs.map (toldV l k o f)):=rfl
@[simp] theorem toldV_vec (γ:Nat) (T:TypeId) (es:List (List V)) (f l' k' g m:Nat):toldV l k (some (γ,.vec T es)) (f + 1) (.vec l' k' g m) = if l' = l∧k' = k∧g = γ∧m = es.length then .list false es else .vec l' k' g m:=rfl
@[simp] theorem toldV_pv (γ:Nat) (T:TypeId) (es:List (List V)) (f:Nat):toldV 0 k ((pl k γ T es).get k) (f + 1) (pv k γ es) = sl es:=by
 cases es with
 | nil=>rfl
 | cons e es=>simp [pv,sl]
@[simp] theorem toldV_pv1 (γ:Nat) (T:TypeId) (es:List (List V)) (f:Nat):toldV 0 k (some (γ,.vec T es)) (f + 1) (pv k γ es) = sl es:=by
 cases es with
 | nil=>rfl
 | cons e es=>simp [pv,sl]
@[simp] theorem toldV_pv2 {j:Nat} (h:j ≠ k) (γ:Nat) (es:List (List V)) (f:Nat):toldV l k o f (pv j γ es) = pv j γ es:=by
 cases es with
 | nil=>cases f <;> rfl
 | cons e es =>
  cases f with
  | zero=>rfl
  | succ f =>
   simp only [pv,toldV]
   split
   ·rw [if_neg (fun hh=>h hh.2.1)]
   ·rfl

/-! ### Calls that give a row -/
noncomputable def oe2 (d c:Nat) (fr:Fr) (s:St):Option Mk→Option XS→Option XS
 | some r,_=>some ⟨c + 1,(d,true,r.val s.up.length d c) :: fr,s.put s.up.length d c r.res⟩
 | none,z=>z
@[simp] theorem oe2_vec (d c:Nat) (fr:Fr) (s:St) (T:TypeId) (es:List (List V)) (z:Option XS):oe2 d c fr s (some ⟨.vec T es,none⟩) z = some ⟨c + 1,(d,true,.vec s.up.length d c es.length) :: fr,s.put s.up.length d c (.vec T es)⟩:=rfl
noncomputable def oe1 (d c:Nat) (fr:Fr) (s:St) (F:List V→Option Mk):Option (List V)→Option XS→Option XS
 | some vs,z=>oe2 d c fr s (F vs) z
 | none,z=>z
@[simp] theorem oe1_some (d c:Nat) (fr:Fr) (s:St) (F:List V→Option Mk) (vs:List V) (z:Option XS):oe1 d c fr s F (some vs) z = oe2 d c fr s (F vs) z:=rfl
variable {A:Ann} {kn:CF0} {n:Nat} {fr:Fr} {s:St}
@[simp] theorem own_row {f:FuncId} (hS:sliceR P f = true) (d c:Nat) (args:List Operand):stepK P (envA P A kn n) (some d) (.call true none (.func f) args) ⟨c,fr,s⟩ =
  oe1 d c fr s (fun vs=>callO1 P (execA P A kn n) f (vs.map weakV)) (mapO (rdX fr) args) (xCall (envA P A kn n).cf (envA P A kn n).cy (some d) (.func f) args ⟨c,fr,s⟩):=by
 show xCalF (envA P A kn n) true (some d) (.func f) args ⟨c,fr,s⟩ = _
 unfold xCalF
 show (match xCallO (envA P A kn n).co (some d) (.func f) args ⟨c,fr,s⟩ with | some st'=>some st' | none=>_) = _
 unfold xCallO
 have hf:rdX fr (.func f) = some (.fn f [] []):=rfl
 simp only [hf]
 cases mapO (rdX fr) args with
 | none=>rfl
 | some vs =>
  simp only [oe1_some,List.nil_append,List.append_nil]
  have:(envA P A kn n).co f (vs.map weakV) d = callO1 P (execA P A kn n) f (vs.map weakV):=by
   show callO P kn (fun _ _ _=>none) (execA P A kn n) f _ d = _
   unfold callO
   simp only [hS]
  rw [this]
  cases callO1 P (execA P A kn n) f (vs.map weakV) with
  | none=>rfl
  | some r=>rfl
noncomputable def of2 (d c:Nat) (fr:Fr) (s:St):Option Mk→Option XS
 | some r=>some ⟨c + 1,(d,true,r.val s.up.length d c) :: fr,s.put s.up.length d c r.res⟩
 | none=>none
@[simp] theorem of2_vec (d c:Nat) (fr:Fr) (s:St) (T:TypeId) (es:List (List V)):of2 d c fr s (some ⟨.vec T es,none⟩) = some ⟨c + 1,(d,true,.vec s.up.length d c es.length) :: fr,s.put s.up.length d c (.vec T es)⟩:=rfl
noncomputable def of1 (d c:Nat) (fr:Fr) (s:St) (F:List V→Option Mk):Option (List V)→Option XS
 | some vs=>of2 d c fr s (F vs)
 | none=>none
@[simp] theorem of1_some (d c:Nat) (fr:Fr) (s:St) (F:List V→Option Mk) (vs:List V):of1 d c fr s F (some vs) = of2 d c fr s (F vs):=rfl
@[simp] theorem own_row0 {f:FuncId} (hS:sliceR P f = true) (d c:Nat) (args:List Operand):stepK0 P (envA P A kn n) (some d) (.call true none (.func f) args) ⟨c,fr,s⟩ =
  nw (of1 d c fr s (fun vs=>callO1 P (execA P A kn n) f (vs.map weakV)) (mapO (rdX fr) args)):=by
 show noW (xCallO (envA P A kn n).co (some d) (.func f) args ⟨c,fr,s⟩) = _
 rw [noW_nw]
 congr 1
 unfold xCallO
 have hf:rdX fr (.func f) = some (.fn f [] []):=rfl
 simp only [hf]
 cases mapO (rdX fr) args with
 | none=>rfl
 | some vs =>
  simp only [of1_some,List.nil_append,List.append_nil]
  have:(envA P A kn n).co f (vs.map weakV) d = callO1 P (execA P A kn n) f (vs.map weakV):=by
   show callO P kn (fun _ _ _=>none) (execA P A kn n) f _ d = _
   unfold callO
   simp only [hS]
  rw [this]
  cases callO1 P (execA P A kn n) f (vs.map weakV) with
  | none=>rfl
  | some r=>rfl

noncomputable def finO (P:Program) (fn:Func) (r:Option (Exit × XS)):Option Mk:=match r with
 | some (.ret,st)=>retO P fn st
 | some (.normal,st)=>retO P fn st
 | _=>none
@[simp] theorem finO_ret (fn:Func) (st:XS):finO P fn (some (.ret,st)) = retO P fn st:=rfl
@[simp] theorem finO_normal (fn:Func) (st:XS):finO P fn (some (.normal,st)) = retO P fn st:=rfl
theorem callO1_eq {f:FuncId} {fn:Func} {c:Code} {args:List V} {rec:RecN} (hf:P.funcs[f]? = some fn) (hb:fn.body = some c) (hs:Nat.ble args.length fn.ntmps = true) (hcl:args.all (closedV 9) = true) :
  callO1 P rec f args = finO P fn (rec fn.ntmps c ⟨0,argFr 0 args,⟨[],[]⟩⟩):=by
 unfold callO1 execB bodyX
 rw [hcl,hf]
 simp only [hb,hs]
 generalize rec fn.ntmps c ⟨0,argFr 0 args,⟨[],[]⟩⟩ = q
 cases q with
 | none=>rfl
 | some q =>
  obtain ⟨e,st⟩:=q
  cases e <;> rfl
noncomputable def rO (P:Program) (fn:Func) (st:XS) (v:Option V):Option Mk:=match v with
 | some (.vec l k γ n)=>Bool.rec none (match st.s.loc.get k with
  | some (γ',.vec T es)=>Bool.rec none (some ⟨.vec T es,none⟩) (Nat.beq γ' γ && Nat.beq n es.length && es.all fun e=>e.all (closedV 9))
  | _=>none) (Nat.beq l st.s.up.length)
 | some v=>Bool.rec none (match fn.resultTypes.toList with
  | [R]=>match elemT P R with
   | some (none,T)=>some ⟨.vec T [],none⟩
   | _=>none
  | _=>none) (newS v)
 | none=>none
theorem retO_eq (fn:Func) (st:XS):retO P fn st = rO P fn st (resV P fn.results.toList st.fr st.s):=rfl
theorem rO_pv {fn:Func} {R T:TypeId} (h1:fn.resultTypes.toList = [R]) (h2:elemT P R = some (none,T)) (c:Nat) (fr:Fr) (loc:Level) (k γ:Nat) (es:List (List V)) (hl:loc.get k = (pl k γ T es).get k) (hc:(es.all fun e=>e.all (closedV 9)) = true):rO P fn ⟨c,fr,⟨[],loc⟩⟩ (some (pv k γ es)) = some ⟨.vec T es,none⟩:=by
 cases es with
 | nil =>
  show (Bool.rec none (match fn.resultTypes.toList with
   | [R]=>match elemT P R with
    | some (none,T)=>some ⟨.vec T [],none⟩
    | _=>none
   | _=>none) true:Option Mk) = _
  rw [h1]
  simp only [h2]
 | cons e es =>
  have hl:loc.get k = some (γ,.vec T (e :: es)):=by rw [hl]; simp
  simp only [pv,rO,hl,hc,List.length_nil,Bool.and_true]
  simp
end Go.Pg
/- What serves the walks of each seat: equations for operations, calls and loops over a function. No program in sight. -/
set_option linter.unusedSimpArgs false
namespace Go.Pg
section
@[simp] theorem unsnoc_snoc {α:Type} (x:α):∀ (l:List α),unsnoc (l ++ [x]) = some (l,x)
 | []=>rfl
 | [y]=>rfl
 | y :: z :: l=>by
  have:=unsnoc_snoc x (z :: l)
  simp only [List.cons_append] at this ⊢
  rw [unsnoc_more,this]; rfl
end

section
variable {P:Program} {E:XE} {d:Option Tmp} {c:Nat} {fr:Fr} {s:St} {r:Operand→Option V}
@[simp] theorem evP_lookup (T:TypeId) (x i:Operand) (ok:Bool):evP P (mkO (.lookup T x i ok)) s r = o2 (fun a b=>evLookup P s T a b ok) (r x) (r i):=by
 show ((r x).bind fun a=>(r i).bind fun b=>evLookup P s T a b ok) = _
 cases r x <;> cases r i <;> rfl
noncomputable def up1 (c:Nat) (fr:Fr) (s:St):Option (Nat × Nat × Nat × List (V × V))→Option XS
 | some (l,q,γ,es)=>Bool.rec none (some ⟨c,fr,s.put l q γ (.map es)⟩) (Nat.blt γ c)
 | none=>none
noncomputable def up3 (P:Program) (T:TypeId) (c:Nat) (fr:Fr) (s:St):Option V→Option V→Option V→Option XS
 | some m,some i,some v=>up1 c fr s (evUpd P s T m i v)
 | _,_,_=>none
@[simp] theorem up3_some (T:TypeId) (m i v:V):up3 P T c fr s (some m) (some i) (some v) = up1 c fr s (evUpd P s T m i v):=rfl
theorem up1_some (l q γ:Nat) (es:List (V × V)) (h:γ < c):up1 c fr s (some (l,q,γ,es)) = some ⟨c,fr,s.put l q γ (.map es)⟩:=by
 have:Nat.blt γ c = true:=by simpa [Nat.blt_eq] using h
 show (Bool.rec none (some ⟨c,fr,s.put l q γ (.map es)⟩) (Nat.blt γ c):Option XS) = _
 rw [this]
@[simp] theorem stepK_upd (T:TypeId) (x i y:Operand):stepK P E none (.upd T x i y) ⟨c,fr,s⟩ = up3 P T c fr s (rdX fr x) (rdX fr i) (rdX fr y):=by
 show xUpd P none T x i y ⟨c,fr,s⟩ = _
 unfold xUpd up3 up1
 simp only
 cases rdX fr x <;> cases rdX fr i <;> cases rdX fr y <;> simp only
 split <;> simp_all
@[simp] theorem evP_nilc (x:Operand):evP P (mkO (.nilCheck x)) s r = o1 evNil (r x):=by
 show (r x).bind evNil = _
 cases r x <;> rfl
@[simp] theorem evNil_ptr (l k g o:Nat):evNil (.ptr l k g o) = some (.ptr l k g o):=rfl
@[simp] theorem rds_nilc (x:Operand) (f:Operand→Option V):rdsK P (.oth (.nilCheck x)) f = []:=rfl
@[simp] theorem rds_look (T:TypeId) (x i:Operand) (ok:Bool) (f:Operand→Option V):rdsK P (.oth (.lookup T x i ok)) f = placeOf (f x):=rfl
@[simp] theorem closeOX_mp (l k g:Nat):closeOX s (.mp l k g) = some (.mp l k g):=rfl
theorem mapOO_same {α:Type} {f:α→Option α}:∀ {l:List α},(∀ x ∈ l,f x = some x)→mapOO f l = some l
 | [],_=>rfl
 | x :: l,h=>by
  have ih:=mapOO_same (f:=f) (l:=l) fun y hy=>h y (by simp [hy])
  simp only [mapOO,h x (by simp),ih]
theorem unsnoc_snoc':∀ (l:List Level) (b:Level),unsnoc (l ++ [b]) = some (l,b)
 | [],b=>by simp
 | [a],b=>by simp
 | a :: a2 :: l,b=>by
  have:=unsnoc_snoc' (a2 :: l) b
  simp only [List.cons_append] at this ⊢
  simp [this]
@[simp] theorem unsnoc_cs (a:Level) (l:List Level) (b:Level):unsnoc (a :: (l ++ [b])) = some (a :: l,b):=unsnoc_snoc' (a :: l) b
@[simp] theorem placeOf_mp (l k g:Nat):placeOf (some (.mp l k g)) = [(l,k)]:=rfl
@[simp] theorem stepK_mkM (d:Nat):stepK P E (some d) (.mkM none) ⟨c,fr,s⟩ = some ⟨c + 1,(d,true,.mp s.up.length d c) :: fr,s.put s.up.length d c (.map [])⟩:=rfl
end

section
variable {P:Program} {s:St} {r:Operand→Option V}
@[simp] theorem evP_sliceH (T:TypeId) (x h:Operand):evP P (mkO (.slice T x none (some h) none)) s r = o2 (fun a b=>evSlice P s T a none (some b) none) (r x) (r h):=by
 show ((r x).bind fun a=>((some none:Option (Option V))).bind fun l=>((r h).map some).bind fun h=>((some none:Option (Option V))).bind fun m=>evSlice P s T a l h m) = _
 cases r x <;> cases r h <;> rfl
end

section
variable {P:Program} {E:XE} {c:Nat} {fr:Fr} {s:St} {r:Operand→Option V}
@[simp] theorem evP_sliceL (T:TypeId) (x l:Operand):evP P (mkO (.slice T x (some l) none none)) s r = o2 (fun a b=>evSlice P s T a (some b) none none) (r x) (r l):=by
 show ((r x).bind fun a=>((r l).map some).bind fun l=>(some none).bind fun h=>(some none).bind fun m=>evSlice P s T a l h m) = _
 cases r x <;> cases r l <;> rfl
end

section
variable {P:Program} {fr:Fr} {s:St}
@[simp] theorem adV_new (e d c:Nat) (ys:List (List V)) (h:appOK P e 0 ys = true):adV P e d c fr s (.list true []) ys = some (⟨c + 1,(d,true,.vec s.up.length d c ys.length) :: fr,s.put s.up.length d c (.vec e ys)⟩,[(s.up.length,d),(s.up.length,d + apK)]):=by
 unfold adV
 simp [newE,h]
@[simp] theorem adV_vec (e d c l q γ n:Nat) (ys:List (List V)):adV P e d c fr s (.vec l q γ n) ys = wp [(l,q),(l,q + apK)] (apW P e d c fr s l q γ n ys (s.get l q)):=rfl
@[simp] theorem evNil_eptr (l k g i o:Nat):evNil (.eptr l k g i o) = some (.eptr l k g i o):=rfl
end

section
@[simp] theorem envA_cy {P:Program} {A:Ann} {kn:CF0} {n:Nat}:(envA P A kn n).cy = yldX (execA P A kn n):=rfl
end

section
variable {P:Program} {A:Ann} {kn:CF0} {n:Nat} {fr:Fr} {s:St}
noncomputable def oc2 (d c:Nat) (fr:Fr) (s:St):Option V→Option XS→Option XS
 | some r,_=>some ⟨c + 1,(d,true,r.ren (fun _=>c) s.up.length) :: fr,s.put s.up.length d c .dead⟩
 | none,z=>z
@[simp] theorem oc2_some (d c:Nat) (r:V) (z:Option XS):oc2 d c fr s (some r) z = some ⟨c + 1,(d,true,r.ren (fun _=>c) s.up.length) :: fr,s.put s.up.length d c .dead⟩:=rfl
noncomputable def oc1 (d c:Nat) (fr:Fr) (s:St) (F:List V→Option V):Option (List V)→Option XS→Option XS
 | some vs,z=>oc2 d c fr s (F vs) z
 | none,z=>z
@[simp] theorem oc1_some (d c:Nat) (F:List V→Option V) (vs:List V) (z:Option XS):oc1 d c fr s F (some vs) z = oc2 d c fr s (F vs) z:=rfl
@[simp] theorem own_func {f:FuncId} (hS:sliceR P f = false) (d c:Nat) (args:List Operand):stepK P (envA P A kn n) (some d) (.call true none (.func f) args) ⟨c,fr,s⟩ =
  oc1 d c fr s (fun vs=>callW P kn (execA P A kn n) f (vs.map weakV)) (mapO (rdX fr) args) (xCall (envA P A kn n).cf (envA P A kn n).cy (some d) (.func f) args ⟨c,fr,s⟩):=by
 show xCalF (envA P A kn n) true (some d) (.func f) args ⟨c,fr,s⟩ = _
 unfold xCalF
 show (match xCallO (envA P A kn n).co (some d) (.func f) args ⟨c,fr,s⟩ with | some st'=>some st' | none=>_) = _
 unfold xCallO
 have hf:rdX fr (.func f) = some (.fn f [] []):=rfl
 simp only [hf]
 cases mapO (rdX fr) args with
 | none=>rfl
 | some vs =>
  simp only [oc1_some,List.nil_append,List.append_nil]
  have:(envA P A kn n).co f (vs.map weakV) d = (match callW P kn (execA P A kn n) f (vs.map weakV) with | some r=>some ⟨.dead,some r⟩ | none=>none):=by
   show callO P kn (fun _ _ _=>none) (execA P A kn n) f _ d = _
   unfold callO
   simp only [hS]
   cases callW P kn (execA P A kn n) f (vs.map weakV) <;> rfl
  rw [this]
  cases callW P kn (execA P A kn n) f (vs.map weakV) with
  | none=>rfl
  | some r=>rfl
noncomputable def od2 (d c:Nat) (fr:Fr) (s:St):Option V→Option XS
 | some r=>some ⟨c + 1,(d,true,r.ren (fun _=>c) s.up.length) :: fr,s.put s.up.length d c .dead⟩
 | none=>none
@[simp] theorem od2_some (d c:Nat) (r:V):od2 d c fr s (some r) = some ⟨c + 1,(d,true,r.ren (fun _=>c) s.up.length) :: fr,s.put s.up.length d c .dead⟩:=rfl
noncomputable def od1 (d c:Nat) (fr:Fr) (s:St) (F:List V→Option V):Option (List V)→Option XS
 | some vs=>od2 d c fr s (F vs)
 | none=>none
@[simp] theorem od1_some (d c:Nat) (F:List V→Option V) (vs:List V):od1 d c fr s F (some vs) = od2 d c fr s (F vs):=rfl
@[simp] theorem own_func0 {f:FuncId} (hS:sliceR P f = false) (d c:Nat) (args:List Operand):stepK0 P (envA P A kn n) (some d) (.call true none (.func f) args) ⟨c,fr,s⟩ =
  nw (od1 d c fr s (fun vs=>callW P kn (execA P A kn n) f (vs.map weakV)) (mapO (rdX fr) args)):=by
 show noW (xCallO (envA P A kn n).co (some d) (.func f) args ⟨c,fr,s⟩) = _
 rw [noW_nw]
 congr 1
 unfold xCallO
 have hf:rdX fr (.func f) = some (.fn f [] []):=rfl
 simp only [hf]
 cases mapO (rdX fr) args with
 | none=>rfl
 | some vs =>
  simp only [od1_some,List.nil_append,List.append_nil]
  have:(envA P A kn n).co f (vs.map weakV) d = (match callW P kn (execA P A kn n) f (vs.map weakV) with | some r=>some ⟨.dead,some r⟩ | none=>none):=by
   show callO P kn (fun _ _ _=>none) (execA P A kn n) f _ d = _
   unfold callO
   simp only [hS]
   cases callW P kn (execA P A kn n) f (vs.map weakV) <;> rfl
  rw [this]
  cases callW P kn (execA P A kn n) f (vs.map weakV) with
  | none=>rfl
  | some r=>rfl
@[simp] theorem ren_sl {σ:Nat→Nat} {δ:Nat} (es:List (List V)):(sl es).ren σ δ = sl (es.map (List.map (V.ren σ δ))):=by cases es <;> simp [sl]
end

section
variable {fr:Fr} {s:St}
@[simp] theorem closeOX_yld (l k g:Nat):closeOX s (.yld l k g) = some (.yld l k g):=rfl
@[simp] theorem closeX_ref' (f:Nat) (cs:List V):closeX s (f + 1) (.ref cs) = some (.ref cs):=rfl
@[simp] theorem resV_nil {P:Program}:resV P [] fr s = some (.tup []):=rfl
@[simp] theorem closeX_tup0 (f:Nat):closeX s (f + 1) (.tup []) = some (.tup []):=rfl
@[simp] theorem constV_nilFunc:constV .nilFunc = some (.raw .nilFunc):=rfl
@[simp] theorem closed_yld (f l k g:Nat):closedV (f + 1) (.yld l k g) = false:=rfl
@[simp] theorem weak_yld (l k g:Nat):weakV (.yld l k g) = .yld l k g:=rfl
@[simp] theorem bx1_yld (d c l k g:Nat):bx1 d c fr s (some (.yld l k g)) = some ⟨c + 1,(d,true,.ptr s.up.length d c 0) :: fr,s.put s.up.length d c (.box [.yld l k g])⟩:=rfl
@[simp] theorem cp1_box (F:List V→Option (List V)) (g off:Nat) (g':Nat) (cs:List V):cp1 F g off (some (g',.box cs)) = if g' = g then (F cs).map (fun ds=>V.ref (ds.drop off)) else none:=rfl
noncomputable def mk4 (P:Program) (d c:Nat) (fr:Fr) (s:St) (e:TypeId) (n m:Int):Option (List V)→Option XS
 | some z=>if 0≤n∧m = n∧z.length = P.cellsOf e∧n.toNat * P.bytesOf e≤140737488355328∧n.toNat≤maxLen then some ⟨c + 1,(d,true,.vec s.up.length d c n.toNat) :: fr,s.put s.up.length d c (.vec e (List.replicate n.toNat z))⟩ else none
 | none=>none
@[simp] theorem mk4_some {P:Program} (d c:Nat) (e:TypeId) (n m:Int) (z:List V):mk4 P d c fr s e n m (some z) = if 0≤n∧m = n∧z.length = P.cellsOf e∧n.toNat * P.bytesOf e≤140737488355328∧n.toNat≤maxLen then some ⟨c + 1,(d,true,.vec s.up.length d c n.toNat) :: fr,s.put s.up.length d c (.vec e (List.replicate n.toNat z))⟩ else none:=rfl
noncomputable def mk3 (P:Program) (d c:Nat) (fr:Fr) (s:St):Option (Option Nat × TypeId)→Option V→Option V→Option XS
 | some (none,e),some (.int _ n),some (.int _ m)=>mk4 P d c fr s e n m (zeroC P e)
 | _,_,_=>none
@[simp] theorem mk3_some {P:Program} (d c:Nat) (e:TypeId) (k1 k2:IntKind) (n m:Int):mk3 P d c fr s (some (none,e)) (some (.int k1 n)) (some (.int k2 m)) = mk4 P d c fr s e n m (zeroC P e):=rfl
@[simp] theorem stepK_mkS {P:Program} {E:XE} (T:TypeId) (d c:Nat) (x y:Operand):stepK P E (some d) (.mkS T x y) ⟨c,fr,s⟩ = mk3 P d c fr s (elemT P T) (rdX fr x) (rdX fr y):=by
 show xMake P (some d) T x y ⟨c,fr,s⟩ = _
 unfold xMake
 simp only
 cases elemT P T with
 | none=>cases rdX fr x <;> cases rdX fr y <;> rfl
 | some p =>
  obtain ⟨k,e⟩:=p
  cases k with
  | some k=>cases rdX fr x <;> cases rdX fr y <;> rfl
  | none =>
   cases rdX fr x with
   | none=>rfl
   | some a =>
    cases rdX fr y with
    | none=>cases a <;> rfl
    | some z =>
     cases a with
     | int k1 n =>
      cases z with
      | int k2 m=>simp only [mk3_some]; cases zeroC P e <;> rfl
      | _=>rfl
     | _=>rfl
@[simp] theorem rds_mkS {P:Program} (T:TypeId) (x y:Operand) (r:Operand→Option V):rdsK P (.mkS T x y) r = []:=rfl
noncomputable def rE (fr:Fr) (n γ:Nat) (r:Option XS):Option (Exit × XS):=match r with
 | some st=>match st.s.get n rkey with
  | some (γ',.loop _ _ _ _ _ ls)=>Bool.rec none (match ls with
   | .ready=>some (.normal,⟨st.c,fr,st.s.put n rkey γ .dead⟩)
   | .left .ret=>some (.ret,⟨st.c,fr,st.s.put n rkey γ .dead⟩)
   | .left (.exit id)=>some (.exit id,⟨st.c,fr,st.s.put n rkey γ .dead⟩)
   | _=>none) (Nat.beq γ' γ && Nat.blt γ st.c)
  | _=>none
 | none=>none
theorem xRange_eq {P:Program} {A:Ann} {kn:CF0} {n N:Nat} {g:Operand} {ps:List Tmp} {asg body:Code} {c:Nat} {up:List Level} {loc:Level} {f:FuncId} {first cap:List V} (h:rdX fr g = some (.fn f first cap)) :
  xRange (envA P A kn n).cf N g ps asg body ⟨c,fr,⟨up,loc⟩⟩ = rE fr up.length c (ca2 (envA P A kn n) none ⟨c + 1,fr,⟨up,(rkey,c,.loop fr ps asg body N .ready) :: loc⟩⟩ f ((first ++ [V.yld up.length rkey c] ++ cap).map weakV)):=by
 unfold xRange
 simp only [h]
 unfold ca2 xRangeE rE
 simp only [St.put,if_true,Level.put]
 cases (envA P A kn n).cf f ((first ++ [V.yld up.length rkey c] ++ cap).map weakV) ⟨c + 1,fr,⟨up,(rkey,c,.loop fr ps asg body N .ready) :: loc⟩⟩ with
 | none=>rfl
 | some r=>rfl
theorem rE_ready {n γ c:Nat} {fr' fr0:Fr} {s:St} {ps:List Tmp} {asg body:Code} {N:Nat} (h:s.get n rkey = some (γ,.loop fr0 ps asg body N .ready)) (hc:γ < c):rE fr n γ (some ⟨c,fr',s⟩) = some (.normal,⟨c,fr,s.put n rkey γ .dead⟩):=by
 unfold rE
 simp only [h]
 have:(Nat.beq γ γ && Nat.blt γ c) = true:=by simpa using hc
 rw [this]
@[simp] theorem shut_loop (t:St) (fr0:Fr) (ps:List Tmp) (asg body:Code) (N:Nat) (l:LS):shutRes t (.loop fr0 ps asg body N l) = .loop fr0 ps asg body N l:=rfl
theorem yld_run {rec:RecN} {l q γ c N:Nat} {fr0:Fr} {ps:List Tmp} {asg body:Code} {vs:List V} (h:s.get l q = some (γ,.loop fr0 ps asg body N .ready)) (hv:vs.length = ps.length) (hc:γ < c) :
  yldX rec l q γ vs ⟨c,fr,s⟩ = roundE fr l q γ (roundB (rec N) l q γ body (rec N asg ⟨c,putPs fr0 ps vs,⟨s.up ++ [s.loc],[]⟩⟩)):=by
 unfold yldX
 simp only [h]
 have:(Nat.beq γ γ && Nat.beq vs.length ps.length && Nat.blt γ c) = true:=by simp [hv,hc]
 rw [this]
theorem roundB_normal {rec:Rec} {l q γ c N:Nat} {fr0:Fr} {ps:List Tmp} {asg body body':Code} (h:s.get l q = some (γ,.loop fr0 ps asg body' N .ready)) (hc:γ < c) :
  roundB rec l q γ body (some (.normal,⟨c,fr,s⟩)) = rec body ⟨c,fr,s.put l q γ (.loop fr0 ps asg body' N .busy)⟩:=by
 unfold roundB
 simp only [h]
 have:(Nat.beq γ γ && Nat.blt γ c) = true:=by simp [hc]
 rw [this]
theorem roundE_normal {fr':Fr} {l q γ c N:Nat} {fr0:Fr} {ps:List Tmp} {asg body:Code} {up u:List Level} {loc lc:Level} (h:St.get ⟨up,loc⟩ l q = some (γ,.loop fr0 ps asg body N .busy)) (hu:unsnoc up = some (u,lc)) (hl:l < up.length) (hc:γ < c) :
  roundE fr l q γ (some (.normal,⟨c,fr',⟨up,loc⟩⟩)) = some (.bool true,⟨c,fr,St.put ⟨u.map (shutLv ⟨up,loc⟩),shutLv ⟨up,loc⟩ lc⟩ l q γ (.loop fr0 ps asg body N .ready)⟩):=by
 unfold roundE
 simp only [h,hu]
 have:(Nat.beq γ γ && Nat.blt l up.length && Nat.blt γ c) = true:=by simp [hc,hl]
 rw [this]
 rfl
end

section
noncomputable def tkU (z:Option XS) (d:Option Tmp) (st:XS):Option V→Option XS
 | some r=>Bool.rec z (valI d st (some r)) (flatR r)
 | none=>z
@[simp] theorem tkU_int (z:Option XS) (d:Option Tmp) (st:XS) (k:IntKind) (n:Int):tkU z d st (some (.int k n)) = valI d st (some (.int k n)):=rfl
@[simp] theorem tkU_bool (z:Option XS) (d:Option Tmp) (st:XS) (b:Bool):tkU z d st (some (.bool b)) = valI d st (some (.bool b)):=rfl
@[simp] theorem weakC_vec (l k g n:Nat):weakC (.vec l k g n) = .vec l k g n:=rfl
@[simp] theorem rowsV_nil (st:XS) (v:V):rowsV st [] v = v:=rfl
@[simp] theorem rowsV_cons (k:Nat) (ks:List Nat) (c:Nat) (fr:Fr) (up:List Level) (loc:Level) (v:V) (h:k < 10000):rowsV ⟨c,fr,⟨up,loc⟩⟩ (k :: ks) v = rowsV ⟨c,fr,⟨up,loc⟩⟩ ks (toldV up.length k (loc.get k) 3 v):=by
 have:Nat.blt k 10000 = true:=by simpa [Nat.blt_eq] using h
 simp only [rowsV,this,cond_true]
@[simp] theorem rowsV_abs (k:Nat) (ks:List Nat) (st:XS) (v:V) (h:¬ k < 10000):rowsV st (k :: ks) v = rowsV st ks (toldV (k / 10000 - 1) (k % 10000) (st.s.get (k / 10000 - 1) (k % 10000)) 3 v):=by
 have:Nat.blt k 10000 = false:=by
  cases hb:Nat.blt k 10000 with
  | false=>rfl
  | true=>exact absurd (by simpa [Nat.blt_eq] using hb) h
 simp only [rowsV,this,cond_false]
@[simp] theorem ca2_cfU {P:Program} {A:Ann} {kn:CF0} {n k:Nat} {us:List Nat} (d:Option Tmp) (st:XS) (f:FuncId) (args:List V):ca2 (cfU (k :: us) (envA P A kn n)) d st f args = tkU (ca2 (envA P A kn n) d st f args) d st (callW P kn (execA P A kn n) f (args.map (rowsV st (k :: us)))):=by
 show (match callU (envA P A kn n).cf (envA P A kn n).c0 (k :: us) f args st with
  | some (r,st')=>some (⟨st'.c,putD st'.fr d true r,st'.s⟩:XS)
  | none=>none) = _
 unfold callU
 have e:(envA P A kn n).c0 = callW P kn (execA P A kn n):=rfl
 rw [e]
 cases callW P kn (execA P A kn n) f (args.map (rowsV st (k :: us))) with
 | none=>rfl
 | some r =>
  show (match (Bool.rec ((envA P A kn n).cf f args st) (some (r,st)) (flatR r):Option (V × XS)) with
   | some (r,st')=>some (⟨st'.c,putD st'.fr d true r,st'.s⟩:XS)
   | none=>none) = (Bool.rec (ca2 (envA P A kn n) d st f args) (valI d st (some r)) (flatR r):Option XS)
  cases flatR r <;> rfl
@[simp] theorem tkU_agg (z:Option XS) (d:Option Tmp) (st:XS) (cs:List V) (h:cs.all flatC0 = true):tkU z d st (some (.agg cs)) = valI d st (some (.agg cs)):=by
 show (Bool.rec z (valI d st (some (.agg cs))) (cs.all flatC0):Option XS) = _
 rw [h]
@[simp] theorem flatC0_int (k:IntKind) (n:Int):flatC0 (.int k n) = true:=rfl
@[simp] theorem flatC0_bool (b:Bool):flatC0 (.bool b) = true:=rfl
end
theorem kl_pl2 {j k:Nat} (h:j ≠ k) (γ γ2:Nat) (T T2:TypeId) (es fs:List (List V)):kl j (kl k [] ((pl j γ T es ++ pl k γ2 T2 fs).get k)) ((pl j γ T es ++ pl k γ2 T2 fs).get j) = pl j γ T es ++ pl k γ2 T2 fs:=by
 cases es <;> cases fs <;> simp [h,h.symm]
theorem get_pl2 {j k:Nat} (h:j ≠ k) (γ γ2:Nat) (T T2:TypeId) (es fs:List (List V)):(pl j γ T es ++ pl k γ2 T2 fs).get k = (pl k γ2 T2 fs).get k:=by
 cases es <;> cases fs <;> simp [h.symm]
theorem kl_pl3 {j k:Nat} (h:j ≠ k) (γ γ2:Nat) (T T2:TypeId) (es fs:List (List V)) (M:Level):kl j M ((pl j γ T es ++ pl k γ2 T2 fs).get j) = pl j γ T es ++ M:=by
 cases es <;> cases fs <;> simp [h,h.symm]
theorem get_pl4 {j k:Nat} (h:j ≠ k) (γ:Nat) (T:TypeId) (es:List (List V)) (x:Nat × Res):(pl j γ T es ++ [(k,x)]).get k = some x:=by
 cases es <;> simp [h.symm]
theorem kl_pl4 {j k:Nat} (h:j ≠ k) (γ:Nat) (T:TypeId) (es:List (List V)) (x:Nat × Res) (M:Level):kl j M ((pl j γ T es ++ [(k,x)]).get j) = pl j γ T es ++ M:=by
 cases es <;> simp [h,h.symm]
theorem get_pl5 {j k:Nat} (h:j ≠ k) (γ γ2:Nat) (T T2:TypeId) (es fs:List (List V)):(pl j γ T es ++ pl k γ2 T2 fs).get j = (pl j γ T es).get j:=by
 cases es <;> cases fs <;> simp [h]
theorem get_pl6 {j k m:Nat} (h1:j ≠ m) (h2:k ≠ m) (γ γ2:Nat) (T T2:TypeId) (es fs:List (List V)):(pl j γ T es ++ pl k γ2 T2 fs).get m = none:=by
 cases es <;> cases fs <;> simp [h1.symm,h2.symm]
theorem kl_pl7 {j:Nat} (γ:Nat) (T:TypeId) (es:List (List V)) (M:Level):kl j M ((pl j γ T es).get j) = pl j γ T es ++ M:=by
 cases es <;> simp
theorem shut_vec {t:St} {T:TypeId} {es:List (List V)} (h:∀ e ∈ es,∀ v ∈ e,closeOX t v = some v):shutRes t (.vec T es) = .vec T es:=by
 have:closeResX t (.vec T es) = some (.vec T es):=by
  unfold closeResX
  simp only
  rw [mapOO_same fun e he=>mapOO_same fun v hv=>h e he v hv]
 unfold shutRes
 rw [this]
@[simp] theorem exec_label {P:Program} {A:Ann} {kn:CF0} {n N l:Nat} {st:XS}:execA P A kn (n + 1) N (.label l) st = some (.normal,st):=rfl
theorem any_not {α:Type} (p:α→Bool):∀ (l:List α),(!l.any fun x=>!p x) = l.all p
 | []=>rfl
 | x :: l=>by
  have:=any_not p l
  simp only [List.any_cons,List.all_cons,Bool.not_or,Bool.not_not,← this]
section
variable {P:Program} {fr:Fr} {s:St}
def pt (k γ:Nat):List (List V)→V
 | []=>.list true []
 | e :: es=>.vec 0 k γ (e :: es).length
@[simp] theorem pt_nil (k γ:Nat):pt k γ [] = .list true []:=rfl
@[simp] theorem pt_cons (k γ:Nat) (e:List V) (es:List (List V)):pt k γ (e :: es) = .vec 0 k γ (es.length + 1):=rfl
@[simp] theorem apV_pt (e k c γ:Nat) (loc:Level) (es:List (List V)) (y:List V) (ys:List (List V)) (hl:Level.get loc k = (pl k γ e es).get k) (h1:es.all (fun y=>y.length == P.cellsOf e) = true) (h2:appOK P e es.length (y :: ys) = true) :
  apV P e k c fr ⟨[],loc⟩ (pt k γ es) (y :: ys) = some ⟨c + 1,(k,true,pt k c (es ++ y :: ys)) :: fr,⟨[],(k,c,.vec e (es ++ y :: ys)) :: loc⟩⟩:=by
 cases es with
 | nil =>
  simp only [List.length_nil] at h2
  simp [h2,pt]
 | cons z es =>
  have h:=apV_pv (P:=P) (fr:=fr) e k c γ loc (z :: es) y ys hl h1 h2
  exact h
theorem closeX_pt {T:TypeId} (f:Nat) (loc:Level) (k γ:Nat) (es:List (List V)) (hl:Level.get loc k = (pl k γ T es).get k):closeX ⟨[],loc⟩ (f + 1) (pt k γ es) = some (.list false es):=by
 cases es with
 | nil=>rfl
 | cons e es=>exact closeX_pv (T:=T) f loc k γ (e :: es) hl
@[simp] theorem closeX_ptl (f k γ:Nat) (T:TypeId) (es:List (List V)):closeX ⟨[],pl k γ T es⟩ (f + 1) (pt k γ es) = some (.list false es):=closeX_pt (T:=T) f _ k γ es rfl
@[simp] theorem evLen_pt {T:TypeId} (h:sliceT P T = true) (k γ:Nat) (es:List (List V)):evLen P T (pt k γ es) = some (.int .i64 es.length):=by
 cases es <;> simp [pt,h]
@[simp] theorem cellsV_pt (k γ:Nat) (es:List (List V)):cellsV (pt k γ es) = [pt k γ es]:=by cases es <;> rfl
@[simp] theorem flatOk_pt (k γ:Nat) (es:List (List V)):flatOk (pt k γ es) = true:=by cases es <;> rfl
end
@[simp] theorem ghO_nil (st:XS):ghO [] st = st:=rfl
@[simp] theorem ghO_cons (k:Nat) (ks:List Nat) (c:Nat) (fr:Fr) (up:List Level) (loc:Level) (h:k < 1000):ghO (k :: ks) ⟨c,fr,⟨up,loc⟩⟩ = ghO ks ⟨c,toldF up.length k (loc.get k) fr,⟨up,toldL up.length k (loc.get k) loc⟩⟩:=by
 have h1:Nat.blt k 1000 = true:=by simpa [Nat.blt_eq] using h
 show ghO ks (gh1 k ⟨c,fr,⟨up,loc⟩⟩) = _
 unfold gh1
 rw [h1]; rfl
section
variable {l k:Nat} {o:Option (Nat × Res)}
def gtf (l k:Nat) (o:Option (Nat × Res)):Option (Bool × V)→Option (Bool × V)
 | some (c,v)=>some (c,toldV l k o 3 v)
 | none=>none
@[simp] theorem gtf_some (c:Bool) (v:V):gtf l k o (some (c,v)) = some (c,toldV l k o 3 v):=rfl
@[simp] theorem gtf_none:gtf l k o none = none:=rfl
@[simp] theorem getF_told (fr:Fr) (j:Nat):getF (toldF l k o fr) j = gtf l k o (getF fr j):=by
 rw [getF_eq,getF_eq,toldF_get]
 cases fr.get j with
 | none=>rfl
 | some x=>rfl
end
end Go.Pg
