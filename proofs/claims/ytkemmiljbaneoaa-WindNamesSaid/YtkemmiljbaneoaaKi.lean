/- What the closed statement WindNames comes to, by computing, with known calls. No condition. -/
import Derived.Test.YtkemmiljbaneoaaKh
namespace Go.Proofs.Try.Kn
open Go Go.Pg
set_option maxRecDepth 100000
noncomputable def exN:RecN:=exec Try.prog (knX tabN) (koX ownN) (litK 100000) 300
theorem runN:call0 Try.prog exN 9 [] = some (.bool true):=by kernel_rfl
end Go.Proofs.Try.Kn
