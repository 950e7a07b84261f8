/- The walk over a region's operations: those that lay a variable, write one, build a slice or call. No program in sight. -/
import Derived.Test.YtfbbnkaahnpicaaPe
namespace Go.Pg

def putD (fr : Fr) (d : Option Tmp) (c : Bool) (v : V) : Fr := match d with
  | some d => fr.put d c v
  | none => fr

def spliceL {α : Type} (cs : List α) (off : Nat) (ds : List α) : List α := cs.take off ++ ds ++ cs.drop (off + ds.length)

def fillV (place : Nat → Option (Nat × Nat)) (cs : List V) : List (Nat × V) → Option (List V)
  | [] => some cs
  | (i, v) :: rest => match place i with
    | none => none
    | some (off, size) => if (cellsV v).length = size ∧ off + (cellsV v).length ≤ cs.length then fillV place (spliceL cs off (cellsV v)) rest else none

def flatOk : V → Bool
  | .tup _ => false
  | _ => true

def evBuild (P : Program) (T : TypeId) (parts : List (Nat × V)) : Option V := match zeroC P T, P.underlying T with
  | some z, some (.struct fs) => if (parts.all fun p => flatOk p.2) ∧ (fs.all fun f => (P.info? f.type).isSome) then (fillV (fun i => (fs[i]?).map fun f => (f.offset, P.cellsOf f.type)) z parts).map .agg else none
  | some z, some (.array _ e) => if (parts.all fun p => flatOk p.2) ∧ (P.info? e).isSome then (fillV (fun i => some (i * P.cellsOf e, P.cellsOf e)) z parts).map .agg else none
  | _, _ => none

def zOk (P : Program) (e : TypeId) : Bool := match zeroC P e with
  | some z => z.length == P.cellsOf e
  | none => false

def chunks (size : Nat) (cs : List V) : Nat → List (List V)
  | 0 => []
  | n + 1 => cs.take size :: chunks size (cs.drop size) n

def evBuildSlice (P : Program) (T : TypeId) (len : Nat) (parts : List (Nat × V)) : Option V := match elemT P T with
  | some (none, e) => match zeroC P e with
    | some z => if (parts.all fun p => flatOk p.2) ∧ z.length = P.cellsOf e ∧ 0 < P.cellsOf e ∧ len * P.cellsOf e ≤ 2 ^ 24 then
        (fillV (fun i => some (i * P.cellsOf e, P.cellsOf e)) (List.replicate len z).flatten parts).map fun cs => .list true (chunks (P.cellsOf e) cs len) else none
    | none => none
  | _ => none

def partsM (r : Operand → Option V) : List (Nat × Operand) → Option (List (Nat × V))
  | [] => some []
  | (i, x) :: rest => match r x, partsM r rest with
    | some v, some l => some ((i, v) :: l)
    | _, _ => none

def elemsOf (s : St) : V → Option (List (List V))
  | .list _ es => some es
  | .nil => some []
  | .vec l k g n => match s.get l k with
    | some (g', .vec _ es) => if g' = g ∧ n ≤ es.length then some (es.take n) else none
    | _ => none
  | _ => none

def Callable (P : Program) (f : FuncId) : Prop := ∀ (args : Array Value) (w : World), (callFunc f args).run P w = .ok (.enter f args) w

def ACall (P : Program) (f : FuncId) (args : List V) (s : St) (K : V → St → Prop) : Prop :=
  Callable P f ∧ ∀ (G : Gh) (vals : Array Value) (w : World) (R : Ending → World → Prop), Inv G s w → RepA G args vals.toList →
    (∀ G' r v w' s', G.le G' → Inv G' s' w' → RepV G' r v → s'.up.length = s.up.length → K r s' → R (.returned v) w') → CallsIn Fence.wide 0 P f vals w R

def CallS (P : Program) (g : Bool) (f : FuncId) (args : List V) (s : St) (K : V → St → Prop) : Prop :=
  (g = true ∧ ACall P f args s K) ∨ ∃ r, (g = true → ACall P f args s fun r' s' => r' = r ∧ s' = s) ∧ K r s

def CodeOK (P : Program) (n N : Nat) (ρ : Option Nat) (c : Code) (K : Exit → Fr → St → Prop) (fr : Fr) (s : St) : Prop :=
  ∀ (G0 G : Gh) (a : Act) (w : World), Rel n N G0 G fr s a w → c.wpIn (wf ρ) 0 P (Post n N G0 K) a w

def putPs : Fr → List Tmp → List V → Fr
  | fr, p :: ps, v :: vs => putPs (fr.put p true v) ps vs
  | fr, _, _ => fr

def closeV (s : St) : Nat → V → V
  | 0, v => v
  | f + 1, v => match v with
    | .list _ es => .list false es
    | .vec l k g m => if l = s.up.length then (match s.loc.get k with
        | some (g', .vec _ es) => if g' = g ∧ m ≤ es.length then .list false (es.take m) else v
        | _ => v) else v
    | .ptr l k g off => if l = s.up.length then (match s.loc.get k with
        | some (g', .box cs) => if g' = g then .ref ((cs.map (closeV s f)).drop off) else v
        | _ => v) else v
    | .agg cs => .agg (cs.map (closeV s f))
    | .tup cs => .tup (cs.map (closeV s f))
    | .fn g xs ys => .fn g (xs.map (closeV s f)) (ys.map (closeV s f))
    | v => v
def closeO (s : St) (v : V) : V := match v with
  | .list f es => .list f es
  | v => closeV s 4 v
def closeRes (s : St) : Res → Res
  | .box cs => .box (cs.map (closeO s))
  | .vec T es => .vec T (es.map (List.map (closeO s)))
  | .map es => .map (es.map fun e => (closeO s e.1, closeO s e.2))
  | .loop fr ps asg body N st => .loop (fr.map fun x => (x.1, x.2.1, closeO s x.2.2)) ps asg body N st
  | .dead => .dead
def Shut (s s0 s2 : St) : Prop := s2.up.length = s0.up.length ∧ ∀ l k g r, s2.get l k = some (g, r) → ∃ r0, s0.get l k = some (g, r0) ∧ (r = r0 ∨ r = closeRes s r0)
theorem Shut.refl (s s0 : St) : Shut s s0 s0 := ⟨rfl, fun _ _ _ r h => ⟨r, h, .inl rfl⟩⟩

def RoundK (n l q γ : Nat) (k : V → St → Prop) (e : Exit) (_ : Fr) (s : St) : Prop := ∃ up lc s2 fr0 ps asg body N, s.up = up ++ [lc] ∧ up.length + 1 = n ∧ l ≤ up.length ∧ s.get l q = some (γ, .loop fr0 ps asg body N .busy) ∧ Shut s ⟨up, lc⟩ s2 ∧ (∃ r', s2.get l q = some (γ, r')) ∧ match e with
  | .normal => k (.bool true) (s2.put l q γ (.loop fr0 ps asg body N .ready))
  | .ret => k (.bool false) (s2.put l q γ (.loop fr0 ps asg body N (.left .ret)))
  | .exit id => k (.bool false) (s2.put l q γ (.loop fr0 ps asg body N (.left (.exit id))))
  | _ => False

def RoundS (P : Program) (l q γ : Nat) (fr0 : Fr) (ps : List Tmp) (asg body : Code) (N : Nat) (vs : List V) (s : St) (k : V → St → Prop) : Prop :=
  vs.length = ps.length ∧ ps.all (fun p => Nat.blt p N) = true ∧ ∀ ρ : Option Nat, CodeOK P (s.up.length + 1) N ρ asg (fun e fr1 s1 => e = .normal ∧ ∃ fr' ps' asg' body' N', s1.get l q = some (γ, .loop fr' ps' asg' body' N' .ready) ∧
    CodeOK P (s.up.length + 1) N ρ body (RoundK (s.up.length + 1) l q γ k) fr1 (s1.put l q γ (.loop fr' ps' asg' body' N' .busy))) (putPs fr0 ps vs) ⟨s.up ++ [s.loc], []⟩

def newS : V → Bool
  | .nil => true
  | .list true [] => true
  | _ => false

def newE : V → List (List V) → Option (List (List V))
  | .nil, _ => some []
  | .list true [], _ => some []
  | .list true (e :: es), _ :: _ => some (e :: es)
  | _, _ => none

def stepP (P : Program) (g : Bool) (o : Oper) (fr : Fr) (s : St) (k : Fr → St → Prop) : Prop :=
  match o.op with
  | .alloc T => match o.dst, zeroC P T with
    | some d, some cs => g = true ∧ ∀ γ, k (fr.put d true (.ptr s.up.length d γ 0)) (s.put s.up.length d γ (.box cs))
    | _, _ => False
  | .box _ x => match o.dst, rdG g fr x with
    | some d, some v => g = true ∧ flatOk v = true ∧ ∀ γ, k (fr.put d true (.ptr s.up.length d γ 0)) (s.put s.up.length d γ (.box (cellsV v)))
    | _, _ => False
  | .makeMap _ r => match o.dst, r with
    | some d, none => g = true ∧ ∀ γ, k (fr.put d true (.mp s.up.length d γ)) (s.put s.up.length d γ (.map []))
    | _, _ => False
  | .makeSlice T x y => match o.dst, rdG g fr x, rdG g fr y, elemT P T with
    | some d, some (.int _ n), some (.int _ m), some (none, e) => match zeroC P e with
      | some z => g = true ∧ 0 ≤ n ∧ m = n ∧ z.length = P.cellsOf e ∧ n.toNat * P.bytesOf e ≤ 140737488355328 ∧ n.toNat ≤ maxLen ∧
          ∀ γ, k (fr.put d true (.vec s.up.length d γ n.toNat)) (s.put s.up.length d γ (.vec e (List.replicate n.toNat z)))
      | none => False
    | _, _, _, _ => False
  | .store T x y => match rdG g fr x, rdG g fr y with
    | some (.ptr l q γ off), some v => match s.get l q with
      | some (γ', .box cs) => g = true ∧ γ' = γ ∧ flatOk v = true ∧ 0 < P.cellsOf T ∧ (cellsV v).length = P.cellsOf T ∧ off + P.cellsOf T ≤ cs.length ∧ o.dst = none ∧ k fr (s.put l q γ (.box (spliceL cs off (cellsV v))))
      | _ => False
    | some (.eptr l q γ i off), some v => match s.get l q with
      | some (γ', .vec U es) => g = true ∧ γ' = γ ∧ flatOk v = true ∧ 0 < P.cellsOf T ∧ (cellsV v).length = P.cellsOf T ∧ i < es.length ∧ off + P.cellsOf T ≤ (es.getD i []).length ∧ o.dst = none ∧
          k fr (s.put l q γ (.vec U (es.set i (spliceL (es.getD i []) off (cellsV v)))))
      | _ => False
    | _, _ => False
  | .pick c a b => match rdG g fr c, rd fr a, rd fr b with
    | some (.bool c), some (ca, .bool a), some (cb, .bool b) => (g = true → c = true → ca = true) ∧ (g = true → c = false → cb = true) ∧ k (putD fr o.dst g (.bool (if c then a else b))) s
    | _, _, _ => False
  | .build T parts => match partsM (rdG g fr) parts.toList with
    | some ps => match evBuild P T ps with
      | some v => k (putD fr o.dst g v) s
      | none => False
    | none => False
  | .buildSlice T len parts => match partsM (rdG g fr) parts.toList with
    | some ps => match evBuildSlice P T len ps with
      | some v => k (putD fr o.dst g v) s
      | none => False
    | none => False
  | .mapUpdate T x i y | .insert T x i y => match rdG g fr x, rdG g fr i, rdG g fr y with
    | some m, some i, some v => match evUpd P s T m i v with
      | some (l, q, γ, es) => g = true ∧ o.dst = none ∧ k fr (s.put l q γ (.map es))
      | none => False
    | _, _, _ => False
  | .call { callee := .builtin .clear, args, argTypes } => match args.toList, argTypes.toList, o.dst with
    | [x], [T], none => match elemT P T, rdG g fr x with
      | some (none, e), some (.vtl l q γ i n) => match s.get l q, zeroC P e with
        | some (γ', .vec U es), some z => g = true ∧ γ' = γ ∧ U = e ∧ i + n ≤ es.length ∧ es.all (fun y => y.length == z.length) = true ∧ k fr (s.put l q γ (.vec U (es.take i ++ List.replicate n z ++ es.drop (i + n))))
        | _, _ => False
      | _, _ => False
    | _, _, _ => False
  | .call { callee := .builtin .append, args, argTypes } => match args.toList, argTypes.toList, o.dst with
    | [x, y], [T, U], some d => T = U ∧ match elemT P T, rdG g fr x, (rdG g fr y).bind (elemsOf s) with
      | some (none, e), some xv, some ys => match newE xv ys with
        | some es => g = true ∧ 0 < P.cellsOf e ∧ zOk P e = true ∧ es.all (fun y => y.length == P.cellsOf e) = true ∧ ys.all (fun y => y.length == P.cellsOf e) = true ∧ es.length + ys.length ≤ maxLen ∧ (es.length + ys.length) * P.bytesOf e ≤ 140737488355328 ∧
          ∀ γ, k (fr.put d true (.vec s.up.length d γ (es ++ ys).length)) (s.put s.up.length d γ (.vec e (es ++ ys)))
        | none => match xv with
        | .vec l q γ n => match s.get l q with
          | some (γ', .vec U es) => g = true ∧ γ' = γ ∧ U = e ∧ n = es.length ∧ 0 < P.cellsOf e ∧ zOk P e = true ∧ es.all (fun y => y.length == P.cellsOf e) = true ∧ ys.all (fun y => y.length == P.cellsOf e) = true ∧
            es.length + ys.length ≤ maxLen ∧ (es.length + ys.length) * P.bytesOf e ≤ 140737488355328 ∧
            ∀ γ', k (fr.put d true (.vec l q γ' (es.length + ys.length))) (s.put l q γ' (.vec e (es ++ ys)))
          | _ => False
        | _ => False
      | _, _, _ => False
    | _, _, _ => False
  | .call { callee := .value f, args, .. } => match rdG g fr f, args.toList.mapM (rdG g fr) with
    | some (.fn fid first cap), some vs => CallS P g fid ((first ++ vs ++ cap).map weakV) s fun r s' => k (putD fr o.dst g r) s'
    | some (.yld l q γ), some vs => match s.get l q with
      | some (γ', .loop fr0 ps asg body N .ready) => g = true ∧ γ' = γ ∧ RoundS P l q γ fr0 ps asg body N vs s fun r s' => k (putD fr o.dst true r) s'
      | _ => False
    | _, _ => False
  | _ => match evP P o s (rdG g fr) with
    | some v => k (putD fr o.dst g v) s
    | none => False

def litP (P : Program) (g : Bool) (o : Oper) (fr : Fr) (s : St) (k : Fr → St → Prop) : Prop := ∃ T len parts d e es ps, o.op = .buildSlice T len parts ∧ g = true ∧ o.dst = some d ∧ elemT P T = some (none, e) ∧ partsM (rdG true fr) parts.toList = some ps ∧
  evBuildSlice P T len ps = some (.list true es) ∧ es ≠ [] ∧ es.length ≤ maxLen ∧ ∀ γ, k (fr.put d true (.vec s.up.length d γ es.length)) (s.put s.up.length d γ (.vec e es))
def shutP (P : Program) (g : Bool) (o : Oper) (fr : Fr) (s : St) (k : Fr → St → Prop) : Prop := ∃ t l q γ n T es, g = true ∧ fr.get t = some (true, .vec l q γ n) ∧ s.get l q = some (γ, .vec T es) ∧ n ≤ es.length ∧
  stepP P true o (fr.put t true (.list false (es.take n))) (s.put l q γ .dead) k
def stepQ (P : Program) (g : Bool) (o : Oper) (fr : Fr) (s : St) (k : Fr → St → Prop) : Prop := stepP P g o fr s k ∨ (g = false ∧ ∃ v, k (putD fr o.dst false v) s) ∨ litP P g o fr s k ∨ shutP P g o fr s k

def evalL (P : Program) : List (Option (Tmp × Bool)) → List Oper → Fr → St → (Fr → St → Prop) → Prop
  | _, [], fr, s, K => K fr s
  | [], o :: rest, fr, s, K => stepQ P true o fr s fun fr s => evalL P [] rest fr s K
  | gd :: gs, o :: rest, fr, s, K => match gdV fr gd with
    | some g => stepQ P g o fr s fun fr s => evalL P gs rest fr s K
    | none => False

def gsOK (all : List Oper) : List (Option (Tmp × Bool)) → List Oper → Bool
  | _, [] => true
  | [], o :: rest => guardIs all o none && gsOK all [] rest
  | gd :: gs, o :: rest => guardIs all o gd && gsOK all gs rest

end Go.Pg
