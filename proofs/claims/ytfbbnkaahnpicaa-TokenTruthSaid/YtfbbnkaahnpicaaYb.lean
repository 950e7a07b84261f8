/- The program keeps to the walk's form; the seat's only known call: the wakefulness probe, which comes to true. No condition. -/
import Derived.Test.YtfbbnkaahnpicaaGa
import Derived.Test.YtfbbnkaahnpicaaKWa
import Derived.Test.YtfbbnkaahnpicaaKOa
import Derived.Test.YtfbbnkaahnpicaaKMa
import Derived.Test.YtfbbnkaahnpicaaKXa
import Derived.Test.YtfbbnkaahnpicaaKFa
import Derived.Test.YtfbbnkaahnpicaaKLa
import Derived.WalkKit
namespace Go.Proofs.Try.Kn
open Go Go.Pg
def tabA:Known:=[
 (33,[SS 4,i 2],.tup [.list false [[i 2,i 0,i 1]],e 0]),
 (21,[SS 4,i 4],.tup [.list false [[i 1],[i 1],[i 2]],.list false [[i 1],[i 2],[i 1]],e 0]),
 (28,[SS 4,i 2],.tup [.agg [i 30,i 30],e 0]),
 (29,[SS 3],.tup [.agg [i 0,i 1],e 0]),
 (37,[SS 5],.tup [i 4,e 0]),
 (38,[SS 5],.tup [.list false [[i 3]],e 0])]
set_option maxRecDepth 100000 in
theorem awake:call0 Try.prog (exec Try.prog (knX tabA) (koX []) noL 300) 20 [] = some (.bool true):=by kernel_rfl
end Go.Proofs.Try.Kn
namespace Go.Proofs.Try.Op
open Go Go.Pg Go.Proofs.Try.Kn
theorem hP:ProgOK Try.prog:=⟨by kernel_rfl,by kernel_rfl⟩
theorem tabA_ok:KnOK Try.prog tabA :=
 knOK_cons (lit:=noL) (n:=300) hP knOK_nil koOK_nil (knOK_cons (lit:=noL) (n:=300) hP knOK_nil koOK_nil (knOK_cons (lit:=noL) (n:=300) hP knOK_nil koOK_nil (knOK_cons (lit:=noL) (n:=300) hP knOK_nil koOK_nil (knOK_cons (lit:=noL) (n:=300) hP knOK_nil koOK_nil (knOK_cons (lit:=noL) (n:=300) hP knOK_nil koOK_nil knOK_nil kLa) kFa) kXa) kMa) kOa) kWa
theorem hkn:CallX0 Try.prog kn:=knOK_cons (lit:=noL) (n:=300) hP tabA_ok koOK_nil knOK_nil awake
end Go.Proofs.Try.Op
