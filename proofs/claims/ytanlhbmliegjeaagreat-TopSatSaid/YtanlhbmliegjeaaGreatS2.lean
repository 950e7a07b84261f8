/- Contracts: wider; what Bounds does in a truth. No condition but a valid case. -/
import Derived.Test.YtanlhbmliegjeaaGreatS1
set_option maxRecDepth 100000
set_option linter.unusedSimpArgs false
open Go Go.Pg Go.Proofs Go.Wind
namespace Go.Wind
end Go.Wind
namespace Go.Proofs.Tryz.Op
theorem SW{n k l d a b g o:Nat}(f:Nat):KG n k l d (f+1) (.vec a b g o)=if a=n/\b=k then .vec l d g o else .vec a b g o:=rfl
end Go.Proofs.Tryz.Op
