/- Contracts: Nth, Truths of the reference, and sure. No condition. -/
import Derived.Test.YtfbbnkaahnpicaaZ2
import Derived.Test.YtfbbnkaahnpicaaFz
open Go Go.Pg Go.Proofs
namespace Go.Proofs.Try.Op
set_option maxRecDepth 100000
set_option linter.unusedSimpArgs false
def line0:Line:=⟨0,0,0⟩
def nthGo (C:Int) (n:Nat):List Line→List Line
 | []=>[]
 | l :: r=>(readings C l).getD (n % (readings C l).length) line0 :: nthGo C (n / (readings C l).length) r
def posOK:Bool:=[1,2,3,4].all fun C:Int=>[0,1,2].all fun k:Int=>[-1,0,1,2,3].all fun c:Int=>[-1,0,1,2,3].all fun t:Int =>
 !(lineOk C ⟨k,c,t⟩) || decide (0 < (readings C ⟨k,c,t⟩).length)
theorem posOK_true:posOK = true:=by decide +kernel
theorem readings_pos {C:Int} (h1:1≤C) (h4:C≤4) {l:Line} (h:lineOk C l = true):0 < (readings C l).length:=by
 obtain ⟨k,c,t⟩:=l
 obtain ⟨v1,v2,v3⟩:=valL_spec h
 simp only at v1 v2 v3
 have q:=List.all_eq_true.1 (List.all_eq_true.1 (List.all_eq_true.1 (List.all_eq_true.1 posOK_true C (mem4 h1 h4)) k (mem3 v1.1 v1.2)) c (mem5 v2.1 (by omega))) t (mem5 v3.1 (by omega))
 rw [h] at q
 simpa using q
def encT (t:List Line):List V:=[sl (t.map encL)]
def truOne (b:Book) (t:List Line):Bool:=isPossB t && b.counts.all (cntOne b t)
def trGo (b:Book) (v d:Nat):List (List Line):=((List.range' v d).map fun n=>nthGo b.chairs n b.lines).filter (truOne b)
def truthsR (b:Book):List (List Line):=trGo b 0 (manyGo b.chairs 1 b.lines).toNat
def sureV (b:Book):V:=if faultB b = 0 then (if (truthsR b).length = 0 then .tup [.nil,i 11] else .tup [sl ((truthsR b).map encT),i 0]) else .tup [.nil,i (faultB b)]
def outN (sel:Line→Int) (L:List (List Line)) (k:Nat) (x:Int):Nat:=L.countP fun t=>decide (0≤outB sel t k x)
end Go.Proofs.Try.Op
