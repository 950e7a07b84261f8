/- The program keeps to the walk's form; the wakefulness probe comes to true. No condition. -/
import Derived.Test.YtkemmiljbaneoaaGreatGa
import Derived.Test.YtkemmiljbaneoaaGreatKPa
import Derived.Test.YtkemmiljbaneoaaGreatKBa
import Derived.Test.YtkemmiljbaneoaaGreatKWa
import Derived.Test.YtkemmiljbaneoaaGreatKTa
import Derived.Test.YtkemmiljbaneoaaGreatKCa
import Derived.Test.YtkemmiljbaneoaaGreatKEa
import Derived.Test.YtkemmiljbaneoaaGreatKFa
import Derived.Test.YtkemmiljbaneoaaGreatKLa
import Derived.Test.YtkemmiljbaneoaaGreatKVa
namespace Go.Proofs.Tryz.Kn
open Go Go.Pg
def tabA:Known:=[
 (54,[BB 0,stay,row [3,0]],.tup [.list false [[.list false [[i 1,i 1,i 0],[i 1,i 2,i 1],[i 1,i 1,i 0]]],[.list false [[i 1,i 1,i 0],[i 1,i 1,i 0],[i 1,i 1,i 0]]]],i 0]),
 (19,[BB 0,stay],.tup [.list false [[.list false [[i 1,i 0,i 1,i 0,i 0],[i 1,i 2,i 2,i 1,i 1],[i 1,i 0,i 1,i 0,i 0]]],[.list false [[i 1,i 0,i 1,i 0,i 0],[i 1,i 0,i 1,i 0,i 0],[i 1,i 0,i 1,i 0,i 0]]]],i 0]),
 (16,[BB 0,turn],.tup [i 6,i 0]),
 (29,[BB 0,turn],.tup [.agg [i 2,i 2],i 0]),
 (27,[BB 1,stay,.agg [i 1,i 1],i 1],.tup [i 2,i 0]),
 (36,[BB 0,i 6],.tup [.list false [[.list false [[i 2],[i 2]]],[.list false [[i 3],[i 3]]]],i 2,i 0]),
 (39,[BB 2],.tup [i 1,i 0]),
 (40,[BB 2],.tup [.list false [[i 0]],i 0]),
 (37,[BB 0,.list false [[.list false [[i 2],[i 2]]],[.list false [[i 3],[i 3]]]],i 6,i 2],.bool true)]
set_option maxRecDepth 100000 in
theorem awake:call0 Tryz.prog (execA Tryz.prog annC (knX tabA) 300) 15 [] = some (.bool true):=by kernel_rfl
theorem tabA_ok:KnOK Tryz.prog tabA :=
 knA hP knOK_nil (knA hP knOK_nil (knA hP knOK_nil (knA hP knOK_nil (knA hP knOK_nil (knA hP tabE_ok (knA hP knOK_nil (knA hP knOK_nil (knA hP knOK_nil knOK_nil kVa) kLa) kFa) kEa) kCa) kTa) kWa) kBa) kPa
theorem hkn:CallX0 Tryz.prog Op.kn:=knA hP tabA_ok knOK_nil awake
end Go.Proofs.Tryz.Kn
