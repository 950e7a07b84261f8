/- Two rows under way. No program in sight. -/
import Derived.Test.YtfbbnkaahnpicaaSx
import Derived.Test.YtfbbnkaahnpicaaGt
import Derived.Test.YtfbbnkaahnpicaaT2
import Derived.Test.YtfbbnkaahnpicaaFz
import Derived.Test.YtfbbnkaahnpicaaY1
open Go Go.Pg Go.Proofs
set_option linter.unusedSimpArgs false
namespace Go.Proofs.Try.Op
theorem kl_pl2 {j k:Nat} (h:j ≠ k) (γ γ2:Nat) (T T2:TypeId) (es fs:List (List V)):kl j (kl k [] ((pl j γ T es ++ pl k γ2 T2 fs).get k)) ((pl j γ T es ++ pl k γ2 T2 fs).get j) = pl j γ T es ++ pl k γ2 T2 fs:=by
 cases es <;> cases fs <;> simp [h,h.symm]
theorem get_pl2 {j k:Nat} (h:j ≠ k) (γ γ2:Nat) (T T2:TypeId) (es fs:List (List V)):(pl j γ T es ++ pl k γ2 T2 fs).get k = (pl k γ2 T2 fs).get k:=by
 cases es <;> cases fs <;> simp [h.symm]
theorem kl_pl3 {j k:Nat} (h:j ≠ k) (γ γ2:Nat) (T T2:TypeId) (es fs:List (List V)) (M:Level):kl j M ((pl j γ T es ++ pl k γ2 T2 fs).get j) = pl j γ T es ++ M:=by
 cases es <;> cases fs <;> simp [h,h.symm]
theorem get_pl4 {j k:Nat} (h:j ≠ k) (γ:Nat) (T:TypeId) (es:List (List V)) (x:Nat × Res):(pl j γ T es ++ [(k,x)]).get k = some x:=by
 cases es <;> simp [h.symm]
theorem kl_pl4 {j k:Nat} (h:j ≠ k) (γ:Nat) (T:TypeId) (es:List (List V)) (x:Nat × Res) (M:Level):kl j M ((pl j γ T es ++ [(k,x)]).get j) = pl j γ T es ++ M:=by
 cases es <;> simp [h,h.symm]
theorem get_pl5 {j k:Nat} (h:j ≠ k) (γ γ2:Nat) (T T2:TypeId) (es fs:List (List V)):(pl j γ T es ++ pl k γ2 T2 fs).get j = (pl j γ T es).get j:=by
 cases es <;> cases fs <;> simp [h]
theorem get_pl6 {j k m:Nat} (h1:j ≠ m) (h2:k ≠ m) (γ γ2:Nat) (T T2:TypeId) (es fs:List (List V)):(pl j γ T es ++ pl k γ2 T2 fs).get m = none:=by
 cases es <;> cases fs <;> simp [h1.symm,h2.symm]
theorem kl_pl7 {j:Nat} (γ:Nat) (T:TypeId) (es:List (List V)) (M:Level):kl j M ((pl j γ T es).get j) = pl j γ T es ++ M:=by
 cases es <;> simp
def withL (b:Book) (t:List Line):Book:={ b with lines:=t }
def selfR (C:Int) (l:Line):Bool:=lineOk C l && ((readings C l).map tri == [tri l])
def selfOK:Bool:=[1,2,3,4].all fun C:Int=>[0,1,2].all fun k:Int=>[-1,0,1,2,3].all fun c:Int=>[-1,0,1,2,3].all fun t:Int =>
 !(lineOk C ⟨k,c,t⟩) || (readings C ⟨k,c,t⟩).all (selfR C)
structure Read1 (b:Book) (t:List Line) (k:Nat):Prop where
 a:askedP (withL b t) true = 0
 c:∀ y ∈ verdsP (withL b t) chP k,y ≠ 3
 t':∀ y ∈ verdsP (withL b t) tkP k,y ≠ 3
 cl:(verdsP (withL b t) chP k).length = b.chairs.toNat
 tl:(verdsP (withL b t) tkP k).length = b.chairs.toNat
 m:(boundsP (withL b t) Scene.money k).1 = (boundsP (withL b t) Scene.money k).2
 x:(boundsP (withL b t) Scene.mixed b.lines.length).1 = (boundsP (withL b t) Scene.mixed b.lines.length).2
 p:proveB (withL b t) t = true
def clash (l x:Line):Bool:=decide (x.c = l.c) || decide (x.t = l.t)
def freshL:List Line→List Line→Bool
 | _,[]=>true
 | s,l :: r=>!(s.any (clash l)) && freshL (s ++ [l]) r
def fcGo:List Line→Nat→List Line→Option Nat
 | _,_,[]=>none
 | s,j,l :: r=>if s.any (clash l) = true then some j else fcGo (s ++ [l]) (j + 1) r
def bitsL (l:Line):Nat:=2 ^ l.c.toNat ||| 2 ^ (4 + l.t.toNat)
def maskL (ls:List Line):Nat:=ls.foldl (fun m l=>m ||| bitsL l) 0
def inR (l:Line):Prop:=0≤l.c∧l.c≤3∧0≤l.t∧l.t≤3
@[simp] theorem conv_3_70 (k:IntKind) (n:Int):evConv Try.prog 3 70 (.int k n) = some (.int .u64 (IntKind.u64.wrap n)):=by
 unfold evConv
 rw [Try.underlying3,Try.underlying70]
@[simp] theorem conv_5_3 (k:IntKind) (n:Int):evConv Try.prog 5 3 (.int k n) = some (.int .i64 (IntKind.i64.wrap n)):=by
 unfold evConv
 rw [Try.underlying5,Try.underlying3]
@[simp] theorem conv_73_3 (k:IntKind) (n:Int):evConv Try.prog 73 3 (.int k n) = some (.int .i64 (IntKind.i64.wrap n)):=by
 unfold evConv
 rw [Try.underlying73,Try.underlying3]
theorem w64_0:IntKind.u64.wrap 0 = 0:=by decide
theorem w64_1:IntKind.u64.wrap 1 = 1:=by decide
theorem w64_2:IntKind.u64.wrap 2 = 2:=by decide
theorem w64_3:IntKind.u64.wrap 3 = 3:=by decide
attribute [simp] w64_0 w64_1 w64_2 w64_3
def rdy (b:Book):Bool:=thinB b && decide (faultB b = 0)
theorem k42 (n:Nat) (b:Book):callK Try.prog kn (execA Try.prog ann kn (n+600)) 42 [.agg (cellsB b)] = some (.bool (rdy b)):=by
 rw [callK_of rfl,call0_eq Try.func42 b42 rfl (by simp [cellsB,encL,encC])]
 have q19:=fun n=>k19 n b
 have q67:=fun n=>k67 n b
 unfold rdy
 generalize hT:thinB b = t at q19
 generalize hF:decide (faultB b = 0) = f
 generalize faultB b = A at q67 hF
 simp only [cellsB] at q19 q67 ⊢
 cases t
 ·simp [c42,argFr,q19,q67,encL,encC]
 ·simp [c42,argFr,q19,q67,encL,encC,hF]
def orI (a b:Int):Int:=IntKind.i64.wrap ((BitVec.ofInt 64 a ||| BitVec.ofInt 64 b).toNat:Int)
def met4 (e0 e1 e2 e3:Bool) (m:Int):Int :=
 let m:=if e0 = true then orI m 1 else m
 let m:=if e1 = true then orI m 2 else m
 let m:=if e2 = true then orI m 4 else m
 if e3 = true then orI m 8 else m
def bitsB (x j:Nat):List Int:=List.map (fun i:Nat=>(i:Int)) ((List.range j).filter fun i=>x.testBit i)
def pickL (x:Nat):Nat→List Line→List Line
 | _,[]=>[]
 | j,l :: r=>if x.testBit j = true then l :: pickL x (j + 1) r else pickL x (j + 1) r
def cntS (x N:Nat) (c:Count):Count:=⟨((bitsB (x &&& (2 ^ c.a.toNat - 1)) N).length:Nat),c.lo,c.hi⟩
def someB (x N:Nat) (b:Book):Book:={ b with lines:=pickL x 0 b.lines,counts:=b.counts.map (cntS x N) }
theorem many_ge {C:Int}:∀ (ls:List Line) (n:Int),0≤n→n≤5000→(∀ l ∈ ls,0 < (readings C l).length)→n≤manyGo C n ls∧manyGo C n ls≤5000
 | [],n,_,h2,_=>⟨Int.le_refl _,h2⟩
 | l :: r,n,h1,h2,h=>by
  have hl:=h l (by simp)
  have h3:n≤n * ((readings C l).length:Int):=by
   have:n * 1≤n * ((readings C l).length:Int):=Int.mul_le_mul_of_nonneg_left (by omega) h1
   omega
  have hm:n≤min5 (n * ((readings C l).length:Int))∧min5 (n * ((readings C l).length:Int))≤5000:=by
   unfold min5; split <;> omega
  have ih:=many_ge r (min5 (n * ((readings C l).length:Int))) (by omega) hm.2 (fun x hx=>h x (by simp [hx]))
  unfold manyGo at ih ⊢
  simp only [List.foldl_cons]
  omega
theorem many_take {C:Int} {ls:List Line} (k:Nat) (h:∀ l ∈ ls,0 < (readings C l).length):manyGo C 1 (ls.take k)≤manyGo C 1 ls:=by
 have e:manyGo C 1 ls = manyGo C (manyGo C 1 (ls.take k)) (ls.drop k):=by
  unfold manyGo
  rw [← List.foldl_append,List.take_append_drop]
 rw [e]
 have h1:=many_ge (C:=C) (ls.take k) 1 (by decide) (by decide) (fun x hx=>h x (List.mem_of_mem_take hx))
 exact (many_ge (ls.drop k) _ (by omega) h1.2 (fun x hx=>h x (List.mem_of_mem_drop hx))).1
theorem cut_fault {b:Book} (hf:faultB b = 0) (k:Nat):faultB (cutB b k) = 0:=by
 obtain ⟨h1,h4,hl8,hc4,hc1,hc2,hx1,hx2,hok,hcok,hm⟩:=fault0 hf
 have e1:(b.lines.take k).all (lineOk b.chairs) = true:=List.all_eq_true.2 fun x hx=>List.all_eq_true.1 hok x (List.mem_of_mem_take hx)
 have e2:=many_take (C:=b.chairs) (ls:=b.lines) k fun l hl=>readings_pos h1 h4 (List.all_eq_true.1 hok l hl)
 have l8:¬ 8 < (b.lines.take k).length:=by simp; omega
 have e3:¬ 4096 < manyGo b.chairs 1 (b.lines.take k):=by omega
 simp only [faultB,cutB,l8,decide_false,e1,inB,h1,h4,hc1,hc2,hx1,hx2,e3]
 simp
def encW (w:Nat):List V:=[.int .u16 w]
def lineW (C w:Nat):Line:=⟨1,((w % C:Nat):Int),((w / 8 % C:Nat):Int)⟩
def optI:Option Nat→Int
 | some x=>x
 | none=>-1
def fcI (ls:List Line):Int:=optI (fcGo [] 0 ls)
def hireOK:Bool:=[1,2,3,4].all fun C:Int=>[0,1,2,3].all fun c:Int=>[0,1,2,3].all fun t:Int=>!(decide (c < C) && decide (t < C)) || selfR C ⟨1,c,t⟩
def bookW (C:Nat) (ws:List Nat):Book:=⟨C,1,0,(ws.take 8).map (lineW C),[]⟩
end Go.Proofs.Try.Op
