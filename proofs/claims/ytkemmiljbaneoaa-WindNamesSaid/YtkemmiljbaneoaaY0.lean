/- The program keeps to the walk's form; the wakefulness probe comes to true. No condition. -/
import Derived.Test.YtkemmiljbaneoaaGa
import Derived.Test.YtkemmiljbaneoaaKPa
import Derived.Test.YtkemmiljbaneoaaKBa
import Derived.Test.YtkemmiljbaneoaaKWa
import Derived.Test.YtkemmiljbaneoaaKTa
import Derived.Test.YtkemmiljbaneoaaKCa
import Derived.Test.YtkemmiljbaneoaaKEa
import Derived.Test.YtkemmiljbaneoaaKFa
import Derived.Test.YtkemmiljbaneoaaKLa
import Derived.Test.YtkemmiljbaneoaaKVa
namespace Go.Proofs.Try.Kn
open Go Go.Pg
def tabA:Known:=[
 (20,[BB 0,stay,row [3,0]],.tup [.list false [[.list false [[i 1,i 1,i 0],[i 1,i 2,i 1],[i 1,i 1,i 0]]],[.list false [[i 1,i 1,i 0],[i 1,i 1,i 0],[i 1,i 1,i 0]]]],i 0]),
 (33,[BB 0,stay],.tup [.list false [[.list false [[i 1,i 0,i 1,i 0,i 0],[i 1,i 2,i 2,i 1,i 1],[i 1,i 0,i 1,i 0,i 0]]],[.list false [[i 1,i 0,i 1,i 0,i 0],[i 1,i 0,i 1,i 0,i 0],[i 1,i 0,i 1,i 0,i 0]]]],i 0]),
 (34,[BB 0,turn],.tup [i 6,i 0]),
 (13,[BB 0,turn],.tup [.agg [i 2,i 2],i 0]),
 (24,[BB 1,stay,.agg [i 1,i 1],i 1],.tup [i 2,i 0]),
 (21,[BB 0,i 6],.tup [.list false [[.list false [[i 2],[i 2]]],[.list false [[i 3],[i 3]]]],i 2,i 0]),
 (27,[BB 2],.tup [i 1,i 0]),
 (23,[BB 2],.tup [.list false [[i 0]],i 0]),
 (36,[BB 0,.list false [[.list false [[i 2],[i 2]]],[.list false [[i 3],[i 3]]]],i 6,i 2],.bool true)]
set_option maxRecDepth 100000 in
theorem awake:call0 Try.prog (execA Try.prog annC (knX tabA) 300) 11 [] = some (.bool true):=by kernel_rfl
theorem tabA_ok:KnOK Try.prog tabA :=
 knA hP knOK_nil (knA hP knOK_nil (knA hP knOK_nil (knA hP knOK_nil (knA hP knOK_nil (knA hP tabE_ok (knA hP knOK_nil (knA hP knOK_nil (knA hP knOK_nil knOK_nil kVa) kLa) kFa) kEa) kCa) kTa) kWa) kBa) kPa
theorem hkn:CallX0 Try.prog Op.kn:=knA hP tabA_ok knOK_nil awake
end Go.Proofs.Try.Kn
