/- Contracts: Verdict, Chair, Token of the reference. No condition. -/
import Derived.Test.YtmnlpgjklibndaaGreatT1
set_option maxRecDepth 100000
set_option linter.unusedSimpArgs false
open Go Go.Pg Go.Proofs
namespace Go.Proofs.Tryz.Op
theorem k73(n:Nat)(y m:Int):AW Tryz.prog kn (AH Tryz.prog ann kn (n+100)) 76 [i y,i m]=some (i (uZ m y)):=by
 rw[AO rfl,AP Tryz.func76 b76 rfl rfl];unfold uZ;generalize e1:decide (y=m)=x1;generalize e2:decide (y=0)=x2;cases x1 with
 |true=>
  have:y=m:=by simpa using e1
  rw[if_pos this]
  simp[c76,AJ,e1]
 |false=>
  have:¬y=m:=by simpa using e1
  rw[if_neg this]
  cases x2 with
  |true=>
   have:y=0:=by simpa using e2
   rw[if_pos this]
   simp[c76,AJ,e1,e2]
  |false=>
   have:¬y=0:=by simpa using e2
   rw[if_neg this]
   simp[c76,AJ,e1,e2]
end Go.Proofs.Tryz.Op
