/- What serves the contracts of IndexFunc and its like: a predicate with a state. No condition. (printed by pred.py) -/
import Derived.Test.YtkemmiljbaneoaaGreatW1
import Derived.Test.YtkemmiljbaneoaaGreatFz
open Go Go.Pg Go.Proofs Go.Wind
namespace Go.Wind
def anyS {σ α:Type} (p:σ→α→Bool) (nx:σ→α→σ):σ→List α→Bool × σ
 | s,[]=>(false,s)
 | s,x :: xs=>bif p s x then (true,nx s x) else anyS p nx (nx s x) xs
theorem anyS_unit {α:Type} (p:α→Bool):∀ (xs:List α),anyS (fun (_:Unit) x=>p x) (fun _ _=>()) () xs = (xs.any p,())
 | []=>rfl
 | x :: xs=>by
  simp only [anyS,List.any_cons,anyS_unit p xs]
  cases p x <;> rfl
end Go.Wind
/- Contracts: IndexFunc, ContainsFunc over Int (I), with a predicate that may keep a state. No condition. (printed by pred.py) -/
open Go Go.Pg Go.Proofs Go.Wind
namespace Go.Proofs.Tryz.Op
set_option maxRecDepth 100000
set_option linter.unusedSimpArgs false
def PredI {σ:Type} (U:σ→List Level) (I:σ→Prop) (K:Nat) (f:FuncId) (cap:List V) (p:σ→Int→Bool) (nx:σ→Int→σ) (xs:List (Int)) (c0:Nat):Prop:=∀ n c fr s x,c0≤c→I s→x ∈ xs→(p s x = false→I (nx s x))∧∃ c',c≤c'∧ca2 (envA Tryz.prog ann kn (n + K)) (some 16) ⟨c,fr,⟨U s,[]⟩⟩ f (i x :: cap) = some ⟨c',(16,true,.bool (p s x)) :: fr,⟨U (nx s x),[]⟩⟩
theorem lIndexI {σ:Type} (n K:Nat) (U:σ→List Level) (I:σ→Prop) (f:FuncId) (cap:List V) (hcw:cap.map weakV = cap) (p:σ→Int→Bool) (nx:σ→Int→σ) (xs:List (Int)) (c0:Nat) (hp:PredI U I K f cap p nx xs c0) (hl:xs.length≤1000):∀ (d k:Nat) (s:σ) (c m:Nat),k + d = xs.length→d < m→c0≤c→I s →
  ∃ (c':Nat) (j:Int),c≤c'∧0≤j∧loopA (execA Tryz.prog ann kn (n+K+50) 19) lb143_2 (ann 19 (fstR lb143_2)) m ⟨c,[(0,true,.list false (xs.map encI)),(1,true,.fn f [] cap),(7,true,i xs.length),(8,true,i k)],⟨U s,[]⟩⟩ =
   bif (anyS p nx s (xs.drop k)).1 then some (.ret,⟨c',[(4,true,i j),(17,true,i j),(5,true,i j)],⟨U (anyS p nx s (xs.drop k)).2,[]⟩⟩)
   else some (.exit 0,⟨c',[(9,true,.bool false),(0,true,.list false (xs.map encI)),(1,true,.fn f [] cap),(7,true,i xs.length),(8,true,i xs.length)],⟨U (anyS p nx s (xs.drop k)).2,[]⟩⟩)
 | 0,k,s,c,m + 1,hd,hm,hc0,hi=>by
  have:k = xs.length:=by omega
  subst this
  refine ⟨c,0,Nat.le_refl _,by omega,?_⟩
  simp [loopA_succ,anyS]
 | d + 1,k,s,c,m + 1,hd,hm,hc0,hi=>by
  have hk:k < xs.length:=by omega
  have hw:=wrapS (k:=k) (by omega)
  have nrm:∀ a:Nat,n + K + a = (n + a) + K:=fun a=>by omega
  rw [loopA_succ,List.drop_eq_getElem_cons hk]
  simp only [anyS]
  obtain ⟨hi',c1,hc1,q⟩:=hp (n + 43) c [(15,true,i xs[k]),(14,true,.ref (encI xs[k])),(13,true,i k),(12,true,.list false (xs.map encI)),(11,true,.fn f [] cap),(0,true,.list false (xs.map encI)),(1,true,.fn f [] cap),(5,true,i k),(7,true,i xs.length),(8,true,i k)] s xs[k] hc0 hi (List.getElem_mem hk)
  generalize e:p s xs[k] = b at q hi'
  cases b with
  | true =>
   refine ⟨c1,k,hc1,by omega,?_⟩
   try simp only [encI] at q
   rw [← nrm] at q
   try simp at q
   simp [hk,hw,encI,q,hcw]
  | false =>
   obtain ⟨c',j,h1,h2,ih⟩:=lIndexI n K U I f cap hcw p nx xs c0 hp hl d (k + 1) (nx s xs[k]) c1 m (by omega) (by omega) (by omega) (hi' rfl)
   refine ⟨c',j,by omega,h2,?_⟩
   try simp only [encI] at q ih
   rw [← nrm] at q
   try simp at q
   simp at ih
   simp [hk,hw,encI,q,ih,hcw]
theorem kIndexI {σ:Type} (n K:Nat) (up:σ→List Level) (loc:σ→Level) (I:σ→Prop) (f:FuncId) (cap:List V) (hcw:cap.map weakV = cap) (hco:cap.all (closedV 8) = false) (p:σ→Int→Bool) (nx:σ→Int→σ) (xs:List (Int)) (c0:Nat) (hp:PredI (fun s=>up s ++ [loc s]) I K f cap p nx xs c0) (hl:xs.length≤40) (hsh:∀ s (t:St),(up s).length + 1≤t.up.length→(up s ++ [loc s]).map (shutLv t) = up s ++ [loc s]) (c dd:Nat) (fr:Fr) (s:σ) (hc0:c0≤c) (hi:I s) :
  ∃ (c':Nat) (j:Int),c≤c'∧decide (0≤j) = (anyS p nx s xs).1∧ca2 (envA Tryz.prog ann kn (n+K+100)) (some dd) ⟨c,fr,⟨up s,loc s⟩⟩ 143 [.list false (xs.map encI),.fn f [] cap] = some ⟨c',(dd,true,i j) :: fr,⟨up (anyS p nx s xs).2,loc (anyS p nx s xs).2⟩⟩:=by
 obtain ⟨c1,j,h1,h2,q⟩:=lIndexI (n + 45) K (fun s=>up s ++ [loc s]) I f cap hcw p nx xs c0 hp (by omega) xs.length 0 s c (n + K + 95) (by omega) (by omega) hc0 hi
 have e:n + 45 + K + 50 = n + K + 95:=by omega
 rw [e] at q
 have hcl:([V.list false (xs.map encI),V.fn f [] cap]).all (closedV 9) = false:=by simp [hco]
 have hs:=fun s=>hsh s ⟨up s ++ [loc s],[]⟩ (by simp)
 simp at hs
 rw [cf_open Tryz.func143 b143 rfl hcl]
 simp only [List.drop_zero] at q
 generalize (anyS p nx s xs).2 = s' at q ⊢
 generalize e:(anyS p nx s xs).1 = b at q
 cases b with
 | true =>
  refine ⟨c1,j,h1,by simpa using h2,?_⟩
  simp at q
  simp [c143,argFr,q,hs]
 | false =>
  refine ⟨c1,-1,h1,by simp,?_⟩
  simp at q
  simp [c143,argFr,q,hs]
theorem kAnyI {σ:Type} (n K:Nat) (up:σ→List Level) (loc:σ→Level) (I:σ→Prop) (f:FuncId) (cap:List V) (hcw:cap.map weakV = cap) (hco:cap.all (closedV 8) = false) (p:σ→Int→Bool) (nx:σ→Int→σ) (xs:List (Int)) (c0:Nat) (hp:PredI (fun s=>up s ++ [loc s] ++ [[]]) I K f cap p nx xs c0) (hl:xs.length≤40) (hsh:∀ s (t:St),(up s).length + 1≤t.up.length→(up s ++ [loc s]).map (shutLv t) = up s ++ [loc s]) (c dd:Nat) (fr:Fr) (s:σ) (hc0:c0≤c) (hi:I s) :
  ∃ c':Nat,c≤c'∧ca2 (envA Tryz.prog ann kn (n+K+200)) (some dd) ⟨c,fr,⟨up s,loc s⟩⟩ 128 [.list false (xs.map encI),.fn f [] cap] = some ⟨c',(dd,true,.bool (anyS p nx s xs).1) :: fr,⟨up (anyS p nx s xs).2,loc (anyS p nx s xs).2⟩⟩:=by
 have hcl:([V.list false (xs.map encI),V.fn f [] cap]).all (closedV 9) = false:=by simp [hco]
 have hsh2:∀ s (t:St),(up s ++ [loc s]).length + 1≤t.up.length→(up s ++ [loc s] ++ [[]]).map (shutLv t) = up s ++ [loc s] ++ [[]]:=fun s t h=>by
  have:=hsh s t (by simp at h; omega)
  simp only [List.map_append,List.map_cons,List.map_nil,shutLv_nil] at this ⊢
  rw [this]
 obtain ⟨c1,j,h1,h2,q⟩:=kIndexI (n + 97) K (fun s=>up s ++ [loc s]) (fun _=>[]) I f cap hcw hco p nx xs c0 hp hl hsh2 c 7 [(6,true,.fn f [] cap),(5,true,.list false (xs.map encI)),(0,true,.list false (xs.map encI)),(1,true,.fn f [] cap)] s hc0 hi
 refine ⟨c1,h1,?_⟩
 have e:n + 97 + K + 100 = n + K + 197:=by omega
 rw [e] at q
 have hs:=fun s=>hsh s ⟨up s ++ [loc s],[]⟩ (by simp)
 simp at hs
 rw [cf_open Tryz.func128 b128 rfl hcl]
 simp [c128,argFr,hcw,q,h2,hs]
end Go.Proofs.Tryz.Op
/- Contracts: wind.all over Int (I). No condition. (printed by pred2.py) -/
open Go Go.Pg Go.Proofs Go.Wind
namespace Go.Proofs.Tryz.Op
set_option maxRecDepth 100000
set_option linter.unusedSimpArgs false
theorem kAllOI {σ:Type} (n K L:Nat) (up:σ→List Level) (loc:σ→Level) (hL:∀ s,(up s).length = L) (I:σ→Prop) (f:FuncId) (cap:List V) (hcw:cap.map weakV = cap) (hco:cap.all (closedV 8) = false) (p:σ→Int→Bool) (nx:σ→Int→σ) (xs:List (Int)) (hl:xs.length≤40)
  (hsh:∀ s (t:St),L + 1≤t.up.length→(up s ++ [loc s]).map (shutLv t) = up s ++ [loc s]) (hcap:∀ (t:St) γ,L + 1≤t.up.length→shutLv t [(3,γ,Res.box [V.fn f [] cap])] = [(3,γ,Res.box [V.fn f [] cap])]) (c:Nat)
  (hp:∀ n c1 fr s x,c < c1→I s→x ∈ xs→(p s x = true→I (nx s x))∧∃ c',c1≤c'∧ca2 (envA Tryz.prog ann kn (n + K)) (some 6) ⟨c1,fr,⟨up s ++ [loc s] ++ [[(3,c,Res.box [V.fn f [] cap])]] ++ [[]] ++ [[]],[]⟩⟩ f (i x :: cap) = some ⟨c',(6,true,.bool (p s x)) :: fr,⟨up (nx s x) ++ [loc (nx s x)] ++ [[(3,c,Res.box [V.fn f [] cap])]] ++ [[]] ++ [[]],[]⟩⟩) (dd:Nat) (fr:Fr) (s:σ) (hi:I s) :
  ∃ c':Nat,c≤c'∧ca2 (envA Tryz.prog ann kn (n+K+300)) (some dd) ⟨c,fr,⟨up s,loc s⟩⟩ 109 [.list false (xs.map encI),.fn f [] cap] = some ⟨c',(dd,true,.bool (!(anyS (fun s x=>!p s x) nx s xs).1)) :: fr,⟨up (anyS (fun s x=>!p s x) nx s xs).2,loc (anyS (fun s x=>!p s x) nx s xs).2⟩⟩:=by
 have hcl:([V.list false (xs.map encI),V.fn f [] cap]).all (closedV 9) = false:=by simp [closed_any,hco]
 have hp2:PredI (fun s=>up s ++ [loc s] ++ [[(3,c,Res.box [V.fn f [] cap])]] ++ [[]]) I (K + 20) 129 [.ptr (L + 1) 3 c 0] (fun s x=>!p s x) nx xs (c + 1):=by
  have hcap':∀ t:St,L + 1≤t.up.length→shutLv t [(3,c,Res.box [V.fn f [] cap])] = [(3,c,Res.box [V.fn f [] cap])]:=fun t h=>hcap t c h
  intro n c1 fr s x hc0 hi hx
  obtain ⟨h1,c',h2,q⟩:=hp (n + 17) c1 [(5,true,i x),(4,true,.fn f [] cap),(0,true,i x),(1,true,.ptr (L + 1) 3 c 0)] s x hc0 hi hx
  refine ⟨fun h=>h1 (by simpa using h),c',h2,?_⟩
  have e:n + 17 + K = n + K + 17:=by omega
  rw [e] at q
  rw [show n + (K + 20) = n + K + 20 from by omega,cf_open Tryz.func129 b129 rfl (by simp)]
  generalize hB:[(3,c,Res.box [V.fn f [] cap])] = B at q hcap'
  have hB1:Level.get B 3 = some (c,.box [.fn f [] cap]):=by rw [← hB]; rfl
  have hg:(up s ++ [loc s] ++ [B] ++ [[]])[L + 1]? = some B:=by
   simp only [List.append_assoc]
   rw [List.getElem?_append_right (by rw [hL]; omega)]
   simp [hL]
  have hs1:∀ s (t:St),L + 1≤t.up.length→List.map (shutLv t) (up s) = up s∧shutLv t (loc s) = loc s:=fun s t h=>by simpa using hsh s t h
  have hu:∀ (l:List Level) a b,unsnoc (l ++ [a,b,[],[]]) = some (l ++ [a,b,[]],[]):=fun l a b=>by
   have:=unsnoc_snoc ([]:Level) (l ++ [a,b,[]])
   rwa [List.append_assoc] at this
  simp only [List.append_assoc,List.cons_append,List.nil_append] at q hg ⊢
  simp [hu,c129,argFr,hcw,q,hg,hL,hB1,(hs1 _ _ _).1,(hs1 _ _ _).2,hcap']
 have hsh2:∀ s (t:St),(up s ++ [loc s]).length + 1≤t.up.length→(up s ++ [loc s] ++ [[(3,c,Res.box [V.fn f [] cap])]]).map (shutLv t) = up s ++ [loc s] ++ [[(3,c,Res.box [V.fn f [] cap])]]:=fun s t h=>by
  have h':L + 1≤t.up.length:=by simp [hL] at h; omega
  have:=hsh s t h'
  have h3:=hcap t c h'
  rw [List.map_append,this]
  simp only [List.map_cons,List.map_nil,h3]
 obtain ⟨c',h1,q⟩:=kAnyI (n + 77) (K + 20) (fun s=>up s ++ [loc s]) (fun _=>[(3,c,Res.box [V.fn f [] cap])]) I 129 [.ptr (L + 1) 3 c 0] (by simp) (by simp) (fun s x=>!p s x) nx xs (c + 1) hp2 hl hsh2 (c + 1) 7 [(6,true,.fn 129 [] [.ptr (L + 1) 3 c 0]),(5,true,.list false (xs.map encI)),(0,true,.list false (xs.map encI)),(1,true,.fn f [] cap),(3,true,.ptr (L + 1) 3 c 0)] s (Nat.le_refl _) hi
 refine ⟨c',by omega,?_⟩
 have e:n + 77 + (K + 20) + 200 = n + K + 297:=by omega
 rw [e] at q
 have hs1:∀ s (t:St),L + 1≤t.up.length→List.map (shutLv t) (up s) = up s∧shutLv t (loc s) = loc s:=fun s t h=>by simpa using hsh s t h
 rw [cf_open Tryz.func109 b109 rfl hcl]
 try simp only [List.length_append,List.length_cons,List.length_nil] at q ⊢
 simp [c109,argFr,hcw,hL,q,(hs1 _ _ _).1,(hs1 _ _ _).2]
theorem kAllI (n K:Nat) (f:FuncId) (p:Int→Bool) (xs:List (Int)) (hl:xs.length≤40) (hf:∀ n x,x ∈ xs→callK Tryz.prog kn (execA Tryz.prog ann kn (n+K)) f [i x] = some (.bool (p x))) :
  callK Tryz.prog kn (execA Tryz.prog ann kn (n+K+300)) 109 [.list false (xs.map encI),.fn f [] []] = some (.bool (xs.all p)):=by
 rw [callK_of rfl,call0_eq Tryz.func109 b109 rfl (by simp [cellsB,encI,encL,encP])]
 have hp2:PredI (fun (_:Unit)=>[] ++ [[(3,0,Res.box [V.fn f [] []])]] ++ [[]]) (fun _=>True) (K + 20) 129 [.ptr 0 3 0 0] (fun _ x=>!p x) (fun _ _=>()) xs 0:=by
  intro n c1 fr s x hc0 hi hx
  refine ⟨fun _=>trivial,c1 + 0,by omega,?_⟩
  have q:=fun n=>hf n x hx
  have q2:=q (n + 17)
  have e:n + 17 + K = n + K + 17:=by omega
  rw [e] at q2
  skip
  try simp [encI] at q2
  rw [show n + (K + 20) = n + K + 20 from by omega,List.nil_append,cf_open Tryz.func129 b129 rfl (by simp)]
  simp [c129,argFr,encI,q2]
  try simp [encI,q2]
 obtain ⟨c',h1,q⟩:=kAnyI (n + 77) (K + 20) (fun _=>[]) (fun _=>[(3,0,.box [.fn f [] []])]) (fun _=>True) 129 [.ptr 0 3 0 0] (by simp) (by simp) (fun _ x=>!p x) (fun _ _=>()) xs 0 hp2 hl (by simp [cellsB,encI,encL,encP]) 1 7 [(6,true,.fn 129 [] [.ptr 0 3 0 0]),(5,true,.list false (xs.map encI)),(0,true,.list false (xs.map encI)),(1,true,.fn f [] []),(3,true,.ptr 0 3 0 0)] () (Nat.zero_le _) trivial
 have e:n + 77 + (K + 20) + 200 = n + K + 297:=by omega
 rw [e,anyS_unit] at q
 have:=any_not p xs
 skip
 simp [c109,argFr,q]
 rw [← this,Bool.not_not]
end Go.Proofs.Tryz.Op
/- Contracts: IndexFunc, ContainsFunc over List Int (L), with a predicate that may keep a state. No condition. (printed by pred.py) -/
open Go Go.Pg Go.Proofs Go.Wind
namespace Go.Proofs.Tryz.Op
set_option maxRecDepth 100000
set_option linter.unusedSimpArgs false
def PredL {σ:Type} (U:σ→List Level) (I:σ→Prop) (K:Nat) (f:FuncId) (cap:List V) (p:σ→List Int→Bool) (nx:σ→List Int→σ) (xs:List (List Int)) (c0:Nat):Prop:=∀ n c fr s x,c0≤c→I s→x ∈ xs→(p s x = false→I (nx s x))∧∃ c',c≤c'∧ca2 (envA Tryz.prog ann kn (n + K)) (some 16) ⟨c,fr,⟨U s,[]⟩⟩ f (li x :: cap) = some ⟨c',(16,true,.bool (p s x)) :: fr,⟨U (nx s x),[]⟩⟩
theorem lIndexL {σ:Type} (n K:Nat) (U:σ→List Level) (I:σ→Prop) (f:FuncId) (cap:List V) (hcw:cap.map weakV = cap) (p:σ→List Int→Bool) (nx:σ→List Int→σ) (xs:List (List Int)) (c0:Nat) (hp:PredL U I K f cap p nx xs c0) (hl:xs.length≤1000):∀ (d k:Nat) (s:σ) (c m:Nat),k + d = xs.length→d < m→c0≤c→I s →
  ∃ (c':Nat) (j:Int),c≤c'∧0≤j∧loopA (execA Tryz.prog ann kn (n+K+50) 19) lb144_2 (ann 19 (fstR lb144_2)) m ⟨c,[(0,true,.list false (xs.map encL)),(1,true,.fn f [] cap),(7,true,i xs.length),(8,true,i k)],⟨U s,[]⟩⟩ =
   bif (anyS p nx s (xs.drop k)).1 then some (.ret,⟨c',[(4,true,i j),(17,true,i j),(5,true,i j)],⟨U (anyS p nx s (xs.drop k)).2,[]⟩⟩)
   else some (.exit 0,⟨c',[(9,true,.bool false),(0,true,.list false (xs.map encL)),(1,true,.fn f [] cap),(7,true,i xs.length),(8,true,i xs.length)],⟨U (anyS p nx s (xs.drop k)).2,[]⟩⟩)
 | 0,k,s,c,m + 1,hd,hm,hc0,hi=>by
  have:k = xs.length:=by omega
  subst this
  refine ⟨c,0,Nat.le_refl _,by omega,?_⟩
  simp [loopA_succ,anyS]
 | d + 1,k,s,c,m + 1,hd,hm,hc0,hi=>by
  have hk:k < xs.length:=by omega
  have hw:=wrapS (k:=k) (by omega)
  have nrm:∀ a:Nat,n + K + a = (n + a) + K:=fun a=>by omega
  rw [loopA_succ,List.drop_eq_getElem_cons hk]
  simp only [anyS]
  obtain ⟨hi',c1,hc1,q⟩:=hp (n + 43) c [(15,true,li xs[k]),(14,true,.ref (encL xs[k])),(13,true,i k),(12,true,.list false (xs.map encL)),(11,true,.fn f [] cap),(0,true,.list false (xs.map encL)),(1,true,.fn f [] cap),(5,true,i k),(7,true,i xs.length),(8,true,i k)] s xs[k] hc0 hi (List.getElem_mem hk)
  generalize e:p s xs[k] = b at q hi'
  cases b with
  | true =>
   refine ⟨c1,k,hc1,by omega,?_⟩
   try simp only [encL] at q
   rw [← nrm] at q
   try simp at q
   simp [hk,hw,encL,q,hcw]
  | false =>
   obtain ⟨c',j,h1,h2,ih⟩:=lIndexL n K U I f cap hcw p nx xs c0 hp hl d (k + 1) (nx s xs[k]) c1 m (by omega) (by omega) (by omega) (hi' rfl)
   refine ⟨c',j,by omega,h2,?_⟩
   try simp only [encL] at q ih
   rw [← nrm] at q
   try simp at q
   simp at ih
   simp [hk,hw,encL,q,ih,hcw]
theorem kIndexL {σ:Type} (n K:Nat) (up:σ→List Level) (loc:σ→Level) (I:σ→Prop) (f:FuncId) (cap:List V) (hcw:cap.map weakV = cap) (hco:cap.all (closedV 8) = false) (p:σ→List Int→Bool) (nx:σ→List Int→σ) (xs:List (List Int)) (c0:Nat) (hp:PredL (fun s=>up s ++ [loc s]) I K f cap p nx xs c0) (hl:xs.length≤40) (hsh:∀ s (t:St),(up s).length + 1≤t.up.length→(up s ++ [loc s]).map (shutLv t) = up s ++ [loc s]) (c dd:Nat) (fr:Fr) (s:σ) (hc0:c0≤c) (hi:I s) :
  ∃ (c':Nat) (j:Int),c≤c'∧decide (0≤j) = (anyS p nx s xs).1∧ca2 (envA Tryz.prog ann kn (n+K+100)) (some dd) ⟨c,fr,⟨up s,loc s⟩⟩ 144 [.list false (xs.map encL),.fn f [] cap] = some ⟨c',(dd,true,i j) :: fr,⟨up (anyS p nx s xs).2,loc (anyS p nx s xs).2⟩⟩:=by
 obtain ⟨c1,j,h1,h2,q⟩:=lIndexL (n + 45) K (fun s=>up s ++ [loc s]) I f cap hcw p nx xs c0 hp (by omega) xs.length 0 s c (n + K + 95) (by omega) (by omega) hc0 hi
 have e:n + 45 + K + 50 = n + K + 95:=by omega
 rw [e] at q
 have hcl:([V.list false (xs.map encL),V.fn f [] cap]).all (closedV 9) = false:=by simp [hco]
 have hs:=fun s=>hsh s ⟨up s ++ [loc s],[]⟩ (by simp)
 simp at hs
 rw [cf_open Tryz.func144 b144 rfl hcl]
 simp only [List.drop_zero] at q
 generalize (anyS p nx s xs).2 = s' at q ⊢
 generalize e:(anyS p nx s xs).1 = b at q
 cases b with
 | true =>
  refine ⟨c1,j,h1,by simpa using h2,?_⟩
  simp at q
  simp [c144,argFr,q,hs]
 | false =>
  refine ⟨c1,-1,h1,by simp,?_⟩
  simp at q
  simp [c144,argFr,q,hs]
theorem kAnyL {σ:Type} (n K:Nat) (up:σ→List Level) (loc:σ→Level) (I:σ→Prop) (f:FuncId) (cap:List V) (hcw:cap.map weakV = cap) (hco:cap.all (closedV 8) = false) (p:σ→List Int→Bool) (nx:σ→List Int→σ) (xs:List (List Int)) (c0:Nat) (hp:PredL (fun s=>up s ++ [loc s] ++ [[]]) I K f cap p nx xs c0) (hl:xs.length≤40) (hsh:∀ s (t:St),(up s).length + 1≤t.up.length→(up s ++ [loc s]).map (shutLv t) = up s ++ [loc s]) (c dd:Nat) (fr:Fr) (s:σ) (hc0:c0≤c) (hi:I s) :
  ∃ c':Nat,c≤c'∧ca2 (envA Tryz.prog ann kn (n+K+200)) (some dd) ⟨c,fr,⟨up s,loc s⟩⟩ 130 [.list false (xs.map encL),.fn f [] cap] = some ⟨c',(dd,true,.bool (anyS p nx s xs).1) :: fr,⟨up (anyS p nx s xs).2,loc (anyS p nx s xs).2⟩⟩:=by
 have hcl:([V.list false (xs.map encL),V.fn f [] cap]).all (closedV 9) = false:=by simp [hco]
 have hsh2:∀ s (t:St),(up s ++ [loc s]).length + 1≤t.up.length→(up s ++ [loc s] ++ [[]]).map (shutLv t) = up s ++ [loc s] ++ [[]]:=fun s t h=>by
  have:=hsh s t (by simp at h; omega)
  simp only [List.map_append,List.map_cons,List.map_nil,shutLv_nil] at this ⊢
  rw [this]
 obtain ⟨c1,j,h1,h2,q⟩:=kIndexL (n + 97) K (fun s=>up s ++ [loc s]) (fun _=>[]) I f cap hcw hco p nx xs c0 hp hl hsh2 c 7 [(6,true,.fn f [] cap),(5,true,.list false (xs.map encL)),(0,true,.list false (xs.map encL)),(1,true,.fn f [] cap)] s hc0 hi
 refine ⟨c1,h1,?_⟩
 have e:n + 97 + K + 100 = n + K + 197:=by omega
 rw [e] at q
 have hs:=fun s=>hsh s ⟨up s ++ [loc s],[]⟩ (by simp)
 simp at hs
 rw [cf_open Tryz.func130 b130 rfl hcl]
 simp [c130,argFr,hcw,q,h2,hs]
end Go.Proofs.Tryz.Op
/- Contracts: wind.all over List Int (L). No condition. (printed by pred2.py) -/
open Go Go.Pg Go.Proofs Go.Wind
namespace Go.Proofs.Tryz.Op
set_option maxRecDepth 100000
set_option linter.unusedSimpArgs false
theorem kAllOL {σ:Type} (n K L:Nat) (up:σ→List Level) (loc:σ→Level) (hL:∀ s,(up s).length = L) (I:σ→Prop) (f:FuncId) (cap:List V) (hcw:cap.map weakV = cap) (hco:cap.all (closedV 8) = false) (p:σ→List Int→Bool) (nx:σ→List Int→σ) (xs:List (List Int)) (hl:xs.length≤40)
  (hsh:∀ s (t:St),L + 1≤t.up.length→(up s ++ [loc s]).map (shutLv t) = up s ++ [loc s]) (hcap:∀ (t:St) γ,L + 1≤t.up.length→shutLv t [(3,γ,Res.box [V.fn f [] cap])] = [(3,γ,Res.box [V.fn f [] cap])]) (c:Nat)
  (hp:∀ n c1 fr s x,c < c1→I s→x ∈ xs→(p s x = true→I (nx s x))∧∃ c',c1≤c'∧ca2 (envA Tryz.prog ann kn (n + K)) (some 6) ⟨c1,fr,⟨up s ++ [loc s] ++ [[(3,c,Res.box [V.fn f [] cap])]] ++ [[]] ++ [[]],[]⟩⟩ f (li x :: cap) = some ⟨c',(6,true,.bool (p s x)) :: fr,⟨up (nx s x) ++ [loc (nx s x)] ++ [[(3,c,Res.box [V.fn f [] cap])]] ++ [[]] ++ [[]],[]⟩⟩) (dd:Nat) (fr:Fr) (s:σ) (hi:I s) :
  ∃ c':Nat,c≤c'∧ca2 (envA Tryz.prog ann kn (n+K+300)) (some dd) ⟨c,fr,⟨up s,loc s⟩⟩ 112 [.list false (xs.map encL),.fn f [] cap] = some ⟨c',(dd,true,.bool (!(anyS (fun s x=>!p s x) nx s xs).1)) :: fr,⟨up (anyS (fun s x=>!p s x) nx s xs).2,loc (anyS (fun s x=>!p s x) nx s xs).2⟩⟩:=by
 have hcl:([V.list false (xs.map encL),V.fn f [] cap]).all (closedV 9) = false:=by simp [closed_any,hco]
 have hp2:PredL (fun s=>up s ++ [loc s] ++ [[(3,c,Res.box [V.fn f [] cap])]] ++ [[]]) I (K + 20) 131 [.ptr (L + 1) 3 c 0] (fun s x=>!p s x) nx xs (c + 1):=by
  have hcap':∀ t:St,L + 1≤t.up.length→shutLv t [(3,c,Res.box [V.fn f [] cap])] = [(3,c,Res.box [V.fn f [] cap])]:=fun t h=>hcap t c h
  intro n c1 fr s x hc0 hi hx
  obtain ⟨h1,c',h2,q⟩:=hp (n + 17) c1 [(5,true,li x),(4,true,.fn f [] cap),(0,true,li x),(1,true,.ptr (L + 1) 3 c 0)] s x hc0 hi hx
  refine ⟨fun h=>h1 (by simpa using h),c',h2,?_⟩
  have e:n + 17 + K = n + K + 17:=by omega
  rw [e] at q
  rw [show n + (K + 20) = n + K + 20 from by omega,cf_open Tryz.func131 b131 rfl (by simp)]
  generalize hB:[(3,c,Res.box [V.fn f [] cap])] = B at q hcap'
  have hB1:Level.get B 3 = some (c,.box [.fn f [] cap]):=by rw [← hB]; rfl
  have hg:(up s ++ [loc s] ++ [B] ++ [[]])[L + 1]? = some B:=by
   simp only [List.append_assoc]
   rw [List.getElem?_append_right (by rw [hL]; omega)]
   simp [hL]
  have hs1:∀ s (t:St),L + 1≤t.up.length→List.map (shutLv t) (up s) = up s∧shutLv t (loc s) = loc s:=fun s t h=>by simpa using hsh s t h
  have hu:∀ (l:List Level) a b,unsnoc (l ++ [a,b,[],[]]) = some (l ++ [a,b,[]],[]):=fun l a b=>by
   have:=unsnoc_snoc ([]:Level) (l ++ [a,b,[]])
   rwa [List.append_assoc] at this
  simp only [List.append_assoc,List.cons_append,List.nil_append] at q hg ⊢
  simp [hu,c131,argFr,hcw,q,hg,hL,hB1,(hs1 _ _ _).1,(hs1 _ _ _).2,hcap']
 have hsh2:∀ s (t:St),(up s ++ [loc s]).length + 1≤t.up.length→(up s ++ [loc s] ++ [[(3,c,Res.box [V.fn f [] cap])]]).map (shutLv t) = up s ++ [loc s] ++ [[(3,c,Res.box [V.fn f [] cap])]]:=fun s t h=>by
  have h':L + 1≤t.up.length:=by simp [hL] at h; omega
  have:=hsh s t h'
  have h3:=hcap t c h'
  rw [List.map_append,this]
  simp only [List.map_cons,List.map_nil,h3]
 obtain ⟨c',h1,q⟩:=kAnyL (n + 77) (K + 20) (fun s=>up s ++ [loc s]) (fun _=>[(3,c,Res.box [V.fn f [] cap])]) I 131 [.ptr (L + 1) 3 c 0] (by simp) (by simp) (fun s x=>!p s x) nx xs (c + 1) hp2 hl hsh2 (c + 1) 7 [(6,true,.fn 131 [] [.ptr (L + 1) 3 c 0]),(5,true,.list false (xs.map encL)),(0,true,.list false (xs.map encL)),(1,true,.fn f [] cap),(3,true,.ptr (L + 1) 3 c 0)] s (Nat.le_refl _) hi
 refine ⟨c',by omega,?_⟩
 have e:n + 77 + (K + 20) + 200 = n + K + 297:=by omega
 rw [e] at q
 have hs1:∀ s (t:St),L + 1≤t.up.length→List.map (shutLv t) (up s) = up s∧shutLv t (loc s) = loc s:=fun s t h=>by simpa using hsh s t h
 rw [cf_open Tryz.func112 b112 rfl hcl]
 try simp only [List.length_append,List.length_cons,List.length_nil] at q ⊢
 simp [c112,argFr,hcw,hL,q,(hs1 _ _ _).1,(hs1 _ _ _).2]
theorem kAllL (n K:Nat) (f:FuncId) (p:List Int→Bool) (xs:List (List Int)) (hl:xs.length≤40) (hf:∀ n x,x ∈ xs→callK Tryz.prog kn (execA Tryz.prog ann kn (n+K)) f [li x] = some (.bool (p x))) :
  callK Tryz.prog kn (execA Tryz.prog ann kn (n+K+300)) 112 [.list false (xs.map encL),.fn f [] []] = some (.bool (xs.all p)):=by
 rw [callK_of rfl,call0_eq Tryz.func112 b112 rfl (by simp [cellsB,encI,encL,encP])]
 have hp2:PredL (fun (_:Unit)=>[] ++ [[(3,0,Res.box [V.fn f [] []])]] ++ [[]]) (fun _=>True) (K + 20) 131 [.ptr 0 3 0 0] (fun _ x=>!p x) (fun _ _=>()) xs 0:=by
  intro n c1 fr s x hc0 hi hx
  refine ⟨fun _=>trivial,c1 + 0,by omega,?_⟩
  have q:=fun n=>hf n x hx
  have q2:=q (n + 17)
  have e:n + 17 + K = n + K + 17:=by omega
  rw [e] at q2
  skip
  try simp [encI] at q2
  rw [show n + (K + 20) = n + K + 20 from by omega,List.nil_append,cf_open Tryz.func131 b131 rfl (by simp)]
  simp [c131,argFr,encI,q2]
  try simp [encI,q2]
 obtain ⟨c',h1,q⟩:=kAnyL (n + 77) (K + 20) (fun _=>[]) (fun _=>[(3,0,.box [.fn f [] []])]) (fun _=>True) 131 [.ptr 0 3 0 0] (by simp) (by simp) (fun _ x=>!p x) (fun _ _=>()) xs 0 hp2 hl (by simp [cellsB,encI,encL,encP]) 1 7 [(6,true,.fn 131 [] [.ptr 0 3 0 0]),(5,true,.list false (xs.map encL)),(0,true,.list false (xs.map encL)),(1,true,.fn f [] []),(3,true,.ptr 0 3 0 0)] () (Nat.zero_le _) trivial
 have e:n + 77 + (K + 20) + 200 = n + K + 297:=by omega
 rw [e,anyS_unit] at q
 have:=any_not p xs
 skip
 simp [c112,argFr,q]
 rw [← this,Bool.not_not]
end Go.Proofs.Tryz.Op
/- Contracts: IndexFunc, ContainsFunc over Int × Int (S), with a predicate that may keep a state. No condition. (printed by pred.py) -/
open Go Go.Pg Go.Proofs Go.Wind
namespace Go.Proofs.Tryz.Op
set_option maxRecDepth 100000
set_option linter.unusedSimpArgs false
def PredS {σ:Type} (U:σ→List Level) (I:σ→Prop) (K:Nat) (f:FuncId) (cap:List V) (p:σ→Int × Int→Bool) (nx:σ→Int × Int→σ) (xs:List (Int × Int)) (c0:Nat):Prop:=∀ n c fr s x,c0≤c→I s→x ∈ xs→(p s x = false→I (nx s x))∧∃ c',c≤c'∧ca2 (envA Tryz.prog ann kn (n + K)) (some 16) ⟨c,fr,⟨U s,[]⟩⟩ f (.agg (encP x) :: cap) = some ⟨c',(16,true,.bool (p s x)) :: fr,⟨U (nx s x),[]⟩⟩
theorem lIndexS {σ:Type} (n K:Nat) (U:σ→List Level) (I:σ→Prop) (f:FuncId) (cap:List V) (hcw:cap.map weakV = cap) (p:σ→Int × Int→Bool) (nx:σ→Int × Int→σ) (xs:List (Int × Int)) (c0:Nat) (hp:PredS U I K f cap p nx xs c0) (hl:xs.length≤1000):∀ (d k:Nat) (s:σ) (c m:Nat),k + d = xs.length→d < m→c0≤c→I s →
  ∃ (c':Nat) (j:Int),c≤c'∧0≤j∧loopA (execA Tryz.prog ann kn (n+K+50) 19) lb145_2 (ann 19 (fstR lb145_2)) m ⟨c,[(0,true,.list false (xs.map encP)),(1,true,.fn f [] cap),(7,true,i xs.length),(8,true,i k)],⟨U s,[]⟩⟩ =
   bif (anyS p nx s (xs.drop k)).1 then some (.ret,⟨c',[(4,true,i j),(17,true,i j),(5,true,i j)],⟨U (anyS p nx s (xs.drop k)).2,[]⟩⟩)
   else some (.exit 0,⟨c',[(9,true,.bool false),(0,true,.list false (xs.map encP)),(1,true,.fn f [] cap),(7,true,i xs.length),(8,true,i xs.length)],⟨U (anyS p nx s (xs.drop k)).2,[]⟩⟩)
 | 0,k,s,c,m + 1,hd,hm,hc0,hi=>by
  have:k = xs.length:=by omega
  subst this
  refine ⟨c,0,Nat.le_refl _,by omega,?_⟩
  simp [loopA_succ,anyS]
 | d + 1,k,s,c,m + 1,hd,hm,hc0,hi=>by
  have hk:k < xs.length:=by omega
  have hw:=wrapS (k:=k) (by omega)
  have nrm:∀ a:Nat,n + K + a = (n + a) + K:=fun a=>by omega
  rw [loopA_succ,List.drop_eq_getElem_cons hk]
  simp only [anyS]
  obtain ⟨hi',c1,hc1,q⟩:=hp (n + 43) c [(15,true,.agg (encP xs[k])),(14,true,.ref (encP xs[k])),(13,true,i k),(12,true,.list false (xs.map encP)),(11,true,.fn f [] cap),(0,true,.list false (xs.map encP)),(1,true,.fn f [] cap),(5,true,i k),(7,true,i xs.length),(8,true,i k)] s xs[k] hc0 hi (List.getElem_mem hk)
  generalize e:p s xs[k] = b at q hi'
  cases b with
  | true =>
   refine ⟨c1,k,hc1,by omega,?_⟩
   try simp only [encP] at q
   rw [← nrm] at q
   try simp at q
   simp [hk,hw,encP,q,hcw]
  | false =>
   obtain ⟨c',j,h1,h2,ih⟩:=lIndexS n K U I f cap hcw p nx xs c0 hp hl d (k + 1) (nx s xs[k]) c1 m (by omega) (by omega) (by omega) (hi' rfl)
   refine ⟨c',j,by omega,h2,?_⟩
   try simp only [encP] at q ih
   rw [← nrm] at q
   try simp at q
   simp at ih
   simp [hk,hw,encP,q,ih,hcw]
theorem kIndexS {σ:Type} (n K:Nat) (up:σ→List Level) (loc:σ→Level) (I:σ→Prop) (f:FuncId) (cap:List V) (hcw:cap.map weakV = cap) (hco:cap.all (closedV 8) = false) (p:σ→Int × Int→Bool) (nx:σ→Int × Int→σ) (xs:List (Int × Int)) (c0:Nat) (hp:PredS (fun s=>up s ++ [loc s]) I K f cap p nx xs c0) (hl:xs.length≤40) (hsh:∀ s (t:St),(up s).length + 1≤t.up.length→(up s ++ [loc s]).map (shutLv t) = up s ++ [loc s]) (c dd:Nat) (fr:Fr) (s:σ) (hc0:c0≤c) (hi:I s) :
  ∃ (c':Nat) (j:Int),c≤c'∧decide (0≤j) = (anyS p nx s xs).1∧ca2 (envA Tryz.prog ann kn (n+K+100)) (some dd) ⟨c,fr,⟨up s,loc s⟩⟩ 145 [.list false (xs.map encP),.fn f [] cap] = some ⟨c',(dd,true,i j) :: fr,⟨up (anyS p nx s xs).2,loc (anyS p nx s xs).2⟩⟩:=by
 obtain ⟨c1,j,h1,h2,q⟩:=lIndexS (n + 45) K (fun s=>up s ++ [loc s]) I f cap hcw p nx xs c0 hp (by omega) xs.length 0 s c (n + K + 95) (by omega) (by omega) hc0 hi
 have e:n + 45 + K + 50 = n + K + 95:=by omega
 rw [e] at q
 have hcl:([V.list false (xs.map encP),V.fn f [] cap]).all (closedV 9) = false:=by simp [hco]
 have hs:=fun s=>hsh s ⟨up s ++ [loc s],[]⟩ (by simp)
 simp at hs
 rw [cf_open Tryz.func145 b145 rfl hcl]
 simp only [List.drop_zero] at q
 generalize (anyS p nx s xs).2 = s' at q ⊢
 generalize e:(anyS p nx s xs).1 = b at q
 cases b with
 | true =>
  refine ⟨c1,j,h1,by simpa using h2,?_⟩
  simp at q
  simp [c145,argFr,q,hs]
 | false =>
  refine ⟨c1,-1,h1,by simp,?_⟩
  simp at q
  simp [c145,argFr,q,hs]
theorem kAnyS {σ:Type} (n K:Nat) (up:σ→List Level) (loc:σ→Level) (I:σ→Prop) (f:FuncId) (cap:List V) (hcw:cap.map weakV = cap) (hco:cap.all (closedV 8) = false) (p:σ→Int × Int→Bool) (nx:σ→Int × Int→σ) (xs:List (Int × Int)) (c0:Nat) (hp:PredS (fun s=>up s ++ [loc s] ++ [[]]) I K f cap p nx xs c0) (hl:xs.length≤40) (hsh:∀ s (t:St),(up s).length + 1≤t.up.length→(up s ++ [loc s]).map (shutLv t) = up s ++ [loc s]) (c dd:Nat) (fr:Fr) (s:σ) (hc0:c0≤c) (hi:I s) :
  ∃ c':Nat,c≤c'∧ca2 (envA Tryz.prog ann kn (n+K+200)) (some dd) ⟨c,fr,⟨up s,loc s⟩⟩ 133 [.list false (xs.map encP),.fn f [] cap] = some ⟨c',(dd,true,.bool (anyS p nx s xs).1) :: fr,⟨up (anyS p nx s xs).2,loc (anyS p nx s xs).2⟩⟩:=by
 have hcl:([V.list false (xs.map encP),V.fn f [] cap]).all (closedV 9) = false:=by simp [hco]
 have hsh2:∀ s (t:St),(up s ++ [loc s]).length + 1≤t.up.length→(up s ++ [loc s] ++ [[]]).map (shutLv t) = up s ++ [loc s] ++ [[]]:=fun s t h=>by
  have:=hsh s t (by simp at h; omega)
  simp only [List.map_append,List.map_cons,List.map_nil,shutLv_nil] at this ⊢
  rw [this]
 obtain ⟨c1,j,h1,h2,q⟩:=kIndexS (n + 97) K (fun s=>up s ++ [loc s]) (fun _=>[]) I f cap hcw hco p nx xs c0 hp hl hsh2 c 7 [(6,true,.fn f [] cap),(5,true,.list false (xs.map encP)),(0,true,.list false (xs.map encP)),(1,true,.fn f [] cap)] s hc0 hi
 refine ⟨c1,h1,?_⟩
 have e:n + 97 + K + 100 = n + K + 197:=by omega
 rw [e] at q
 have hs:=fun s=>hsh s ⟨up s ++ [loc s],[]⟩ (by simp)
 simp at hs
 rw [cf_open Tryz.func133 b133 rfl hcl]
 simp [c133,argFr,hcw,q,h2,hs]
end Go.Proofs.Tryz.Op
/- Contracts: wind.all over Int × Int (S). No condition. (printed by pred2.py) -/
open Go Go.Pg Go.Proofs Go.Wind
namespace Go.Proofs.Tryz.Op
set_option maxRecDepth 100000
set_option linter.unusedSimpArgs false
theorem kAllS (n K:Nat) (b:Beach) (f:FuncId) (p:Int × Int→Bool) (xs:List (Int × Int)) (hl:xs.length≤40) (hf:∀ n x,x ∈ xs→callK Tryz.prog kn (execA Tryz.prog ann kn (n+K)) f [.agg (cellsB b),.agg (encP x)] = some (.bool (p x))) :
  callK Tryz.prog kn (execA Tryz.prog ann kn (n+K+300)) 114 [.list false (xs.map encP),.fn f [.agg (cellsB b)] []] = some (.bool (xs.all p)):=by
 rw [callK_of rfl,call0_eq Tryz.func114 b114 rfl (by simp [cellsB,encI,encL,encP])]
 have hp2:PredS (fun (_:Unit)=>[] ++ [[(3,0,Res.box [V.fn f [.agg (cellsB b)] []])]] ++ [[]]) (fun _=>True) (K + 20) 134 [.ptr 0 3 0 0] (fun _ x=>!p x) (fun _ _=>()) xs 0:=by
  intro n c1 fr s x hc0 hi hx
  refine ⟨fun _=>trivial,c1 + 1,by omega,?_⟩
  have q:=fun n=>hf n x hx
  have q2:=q (n + 17)
  have e:n + 17 + K = n + K + 17:=by omega
  rw [e] at q2
  simp only [cellsB,encP] at q2 ⊢
  try simp [encI] at q2
  rw [show n + (K + 20) = n + K + 20 from by omega,List.nil_append,cf_open Tryz.func134 b134 rfl (by simp)]
  simp [c134,argFr,cellsB,encI,encL,encP,q2]
  try simp [cellsB,encI,encL,encP,q2]
 obtain ⟨c',h1,q⟩:=kAnyS (n + 77) (K + 20) (fun _=>[]) (fun _=>[(3,0,.box [.fn f [.agg (cellsB b)] []])]) (fun _=>True) 134 [.ptr 0 3 0 0] (by simp) (by simp) (fun _ x=>!p x) (fun _ _=>()) xs 0 hp2 hl (by simp [cellsB,encI,encL,encP]) 1 7 [(6,true,.fn 134 [] [.ptr 0 3 0 0]),(5,true,.list false (xs.map encP)),(0,true,.list false (xs.map encP)),(1,true,.fn f [.agg (cellsB b)] []),(3,true,.ptr 0 3 0 0)] () (Nat.zero_le _) trivial
 have e:n + 77 + (K + 20) + 200 = n + K + 297:=by omega
 rw [e,anyS_unit] at q
 have:=any_not p xs
 simp only [cellsB] at q ⊢
 simp [c114,argFr,q]
 rw [← this,Bool.not_not]
end Go.Proofs.Tryz.Op
/- Contracts: IndexFunc, ContainsFunc over Int × Int (N), with a predicate that may keep a state. No condition. (printed by pred.py) -/
open Go Go.Pg Go.Proofs Go.Wind
namespace Go.Proofs.Tryz.Op
set_option maxRecDepth 100000
set_option linter.unusedSimpArgs false
def PredN {σ:Type} (U:σ→List Level) (I:σ→Prop) (K:Nat) (f:FuncId) (cap:List V) (p:σ→Int × Int→Bool) (nx:σ→Int × Int→σ) (xs:List (Int × Int)) (c0:Nat):Prop:=∀ n c fr s x,c0≤c→I s→x ∈ xs→(p s x = false→I (nx s x))∧∃ c',c≤c'∧ca2 (envA Tryz.prog ann kn (n + K)) (some 16) ⟨c,fr,⟨U s,[]⟩⟩ f (.agg (encP x) :: cap) = some ⟨c',(16,true,.bool (p s x)) :: fr,⟨U (nx s x),[]⟩⟩
theorem lIndexN {σ:Type} (n K:Nat) (U:σ→List Level) (I:σ→Prop) (f:FuncId) (cap:List V) (hcw:cap.map weakV = cap) (p:σ→Int × Int→Bool) (nx:σ→Int × Int→σ) (xs:List (Int × Int)) (c0:Nat) (hp:PredN U I K f cap p nx xs c0) (hl:xs.length≤1000):∀ (d k:Nat) (s:σ) (c m:Nat),k + d = xs.length→d < m→c0≤c→I s →
  ∃ (c':Nat) (j:Int),c≤c'∧0≤j∧loopA (execA Tryz.prog ann kn (n+K+50) 19) lb146_2 (ann 19 (fstR lb146_2)) m ⟨c,[(0,true,.list false (xs.map encP)),(1,true,.fn f [] cap),(7,true,i xs.length),(8,true,i k)],⟨U s,[]⟩⟩ =
   bif (anyS p nx s (xs.drop k)).1 then some (.ret,⟨c',[(4,true,i j),(17,true,i j),(5,true,i j)],⟨U (anyS p nx s (xs.drop k)).2,[]⟩⟩)
   else some (.exit 0,⟨c',[(9,true,.bool false),(0,true,.list false (xs.map encP)),(1,true,.fn f [] cap),(7,true,i xs.length),(8,true,i xs.length)],⟨U (anyS p nx s (xs.drop k)).2,[]⟩⟩)
 | 0,k,s,c,m + 1,hd,hm,hc0,hi=>by
  have:k = xs.length:=by omega
  subst this
  refine ⟨c,0,Nat.le_refl _,by omega,?_⟩
  simp [loopA_succ,anyS]
 | d + 1,k,s,c,m + 1,hd,hm,hc0,hi=>by
  have hk:k < xs.length:=by omega
  have hw:=wrapS (k:=k) (by omega)
  have nrm:∀ a:Nat,n + K + a = (n + a) + K:=fun a=>by omega
  rw [loopA_succ,List.drop_eq_getElem_cons hk]
  simp only [anyS]
  obtain ⟨hi',c1,hc1,q⟩:=hp (n + 43) c [(15,true,.agg (encP xs[k])),(14,true,.ref (encP xs[k])),(13,true,i k),(12,true,.list false (xs.map encP)),(11,true,.fn f [] cap),(0,true,.list false (xs.map encP)),(1,true,.fn f [] cap),(5,true,i k),(7,true,i xs.length),(8,true,i k)] s xs[k] hc0 hi (List.getElem_mem hk)
  generalize e:p s xs[k] = b at q hi'
  cases b with
  | true =>
   refine ⟨c1,k,hc1,by omega,?_⟩
   try simp only [encP] at q
   rw [← nrm] at q
   try simp at q
   simp [hk,hw,encP,q,hcw]
  | false =>
   obtain ⟨c',j,h1,h2,ih⟩:=lIndexN n K U I f cap hcw p nx xs c0 hp hl d (k + 1) (nx s xs[k]) c1 m (by omega) (by omega) (by omega) (hi' rfl)
   refine ⟨c',j,by omega,h2,?_⟩
   try simp only [encP] at q ih
   rw [← nrm] at q
   try simp at q
   simp at ih
   simp [hk,hw,encP,q,ih,hcw]
theorem kIndexN {σ:Type} (n K:Nat) (up:σ→List Level) (loc:σ→Level) (I:σ→Prop) (f:FuncId) (cap:List V) (hcw:cap.map weakV = cap) (hco:cap.all (closedV 8) = false) (p:σ→Int × Int→Bool) (nx:σ→Int × Int→σ) (xs:List (Int × Int)) (c0:Nat) (hp:PredN (fun s=>up s ++ [loc s]) I K f cap p nx xs c0) (hl:xs.length≤40) (hsh:∀ s (t:St),(up s).length + 1≤t.up.length→(up s ++ [loc s]).map (shutLv t) = up s ++ [loc s]) (c dd:Nat) (fr:Fr) (s:σ) (hc0:c0≤c) (hi:I s) :
  ∃ (c':Nat) (j:Int),c≤c'∧decide (0≤j) = (anyS p nx s xs).1∧ca2 (envA Tryz.prog ann kn (n+K+100)) (some dd) ⟨c,fr,⟨up s,loc s⟩⟩ 146 [.list false (xs.map encP),.fn f [] cap] = some ⟨c',(dd,true,i j) :: fr,⟨up (anyS p nx s xs).2,loc (anyS p nx s xs).2⟩⟩:=by
 obtain ⟨c1,j,h1,h2,q⟩:=lIndexN (n + 45) K (fun s=>up s ++ [loc s]) I f cap hcw p nx xs c0 hp (by omega) xs.length 0 s c (n + K + 95) (by omega) (by omega) hc0 hi
 have e:n + 45 + K + 50 = n + K + 95:=by omega
 rw [e] at q
 have hcl:([V.list false (xs.map encP),V.fn f [] cap]).all (closedV 9) = false:=by simp [hco]
 have hs:=fun s=>hsh s ⟨up s ++ [loc s],[]⟩ (by simp)
 simp at hs
 rw [cf_open Tryz.func146 b146 rfl hcl]
 simp only [List.drop_zero] at q
 generalize (anyS p nx s xs).2 = s' at q ⊢
 generalize e:(anyS p nx s xs).1 = b at q
 cases b with
 | true =>
  refine ⟨c1,j,h1,by simpa using h2,?_⟩
  simp at q
  simp [c146,argFr,q,hs]
 | false =>
  refine ⟨c1,-1,h1,by simp,?_⟩
  simp at q
  simp [c146,argFr,q,hs]
theorem kAnyN {σ:Type} (n K:Nat) (up:σ→List Level) (loc:σ→Level) (I:σ→Prop) (f:FuncId) (cap:List V) (hcw:cap.map weakV = cap) (hco:cap.all (closedV 8) = false) (p:σ→Int × Int→Bool) (nx:σ→Int × Int→σ) (xs:List (Int × Int)) (c0:Nat) (hp:PredN (fun s=>up s ++ [loc s] ++ [[]]) I K f cap p nx xs c0) (hl:xs.length≤40) (hsh:∀ s (t:St),(up s).length + 1≤t.up.length→(up s ++ [loc s]).map (shutLv t) = up s ++ [loc s]) (c dd:Nat) (fr:Fr) (s:σ) (hc0:c0≤c) (hi:I s) :
  ∃ c':Nat,c≤c'∧ca2 (envA Tryz.prog ann kn (n+K+200)) (some dd) ⟨c,fr,⟨up s,loc s⟩⟩ 135 [.list false (xs.map encP),.fn f [] cap] = some ⟨c',(dd,true,.bool (anyS p nx s xs).1) :: fr,⟨up (anyS p nx s xs).2,loc (anyS p nx s xs).2⟩⟩:=by
 have hcl:([V.list false (xs.map encP),V.fn f [] cap]).all (closedV 9) = false:=by simp [hco]
 have hsh2:∀ s (t:St),(up s ++ [loc s]).length + 1≤t.up.length→(up s ++ [loc s] ++ [[]]).map (shutLv t) = up s ++ [loc s] ++ [[]]:=fun s t h=>by
  have:=hsh s t (by simp at h; omega)
  simp only [List.map_append,List.map_cons,List.map_nil,shutLv_nil] at this ⊢
  rw [this]
 obtain ⟨c1,j,h1,h2,q⟩:=kIndexN (n + 97) K (fun s=>up s ++ [loc s]) (fun _=>[]) I f cap hcw hco p nx xs c0 hp hl hsh2 c 7 [(6,true,.fn f [] cap),(5,true,.list false (xs.map encP)),(0,true,.list false (xs.map encP)),(1,true,.fn f [] cap)] s hc0 hi
 refine ⟨c1,h1,?_⟩
 have e:n + 97 + K + 100 = n + K + 197:=by omega
 rw [e] at q
 have hs:=fun s=>hsh s ⟨up s ++ [loc s],[]⟩ (by simp)
 simp at hs
 rw [cf_open Tryz.func135 b135 rfl hcl]
 simp [c135,argFr,hcw,q,h2,hs]
end Go.Proofs.Tryz.Op
/- Contracts: wind.all over Int × Int (N). No condition. (printed by pred2.py) -/
open Go Go.Pg Go.Proofs Go.Wind
namespace Go.Proofs.Tryz.Op
set_option maxRecDepth 100000
set_option linter.unusedSimpArgs false
theorem kAllN (n K:Nat) (b:Beach) (f:FuncId) (p:Int × Int→Bool) (xs:List (Int × Int)) (hl:xs.length≤40) (hf:∀ n x,x ∈ xs→callK Tryz.prog kn (execA Tryz.prog ann kn (n+K)) f [.agg (cellsB b),.agg (encP x)] = some (.bool (p x))) :
  callK Tryz.prog kn (execA Tryz.prog ann kn (n+K+300)) 115 [.list false (xs.map encP),.fn f [.agg (cellsB b)] []] = some (.bool (xs.all p)):=by
 rw [callK_of rfl,call0_eq Tryz.func115 b115 rfl (by simp [cellsB,encI,encL,encP])]
 have hp2:PredN (fun (_:Unit)=>[] ++ [[(3,0,Res.box [V.fn f [.agg (cellsB b)] []])]] ++ [[]]) (fun _=>True) (K + 20) 136 [.ptr 0 3 0 0] (fun _ x=>!p x) (fun _ _=>()) xs 0:=by
  intro n c1 fr s x hc0 hi hx
  refine ⟨fun _=>trivial,c1 + 1,by omega,?_⟩
  have q:=fun n=>hf n x hx
  have q2:=q (n + 17)
  have e:n + 17 + K = n + K + 17:=by omega
  rw [e] at q2
  simp only [cellsB,encP] at q2 ⊢
  try simp [encI] at q2
  rw [show n + (K + 20) = n + K + 20 from by omega,List.nil_append,cf_open Tryz.func136 b136 rfl (by simp)]
  simp [c136,argFr,cellsB,encI,encL,encP,q2]
  try simp [cellsB,encI,encL,encP,q2]
 obtain ⟨c',h1,q⟩:=kAnyN (n + 77) (K + 20) (fun _=>[]) (fun _=>[(3,0,.box [.fn f [.agg (cellsB b)] []])]) (fun _=>True) 136 [.ptr 0 3 0 0] (by simp) (by simp) (fun _ x=>!p x) (fun _ _=>()) xs 0 hp2 hl (by simp [cellsB,encI,encL,encP]) 1 7 [(6,true,.fn 136 [] [.ptr 0 3 0 0]),(5,true,.list false (xs.map encP)),(0,true,.list false (xs.map encP)),(1,true,.fn f [.agg (cellsB b)] []),(3,true,.ptr 0 3 0 0)] () (Nat.zero_le _) trivial
 have e:n + 77 + (K + 20) + 200 = n + K + 297:=by omega
 rw [e,anyS_unit] at q
 have:=any_not p xs
 simp only [cellsB] at q ⊢
 simp [c115,argFr,q]
 rw [← this,Bool.not_not]
end Go.Proofs.Tryz.Op
