/- What calls within Best of the closed example come to, by computing. No condition. -/
import Derived.Test.YtkemmiljbaneoaaQc
namespace Go.Proofs.Try.Kn
open Go Go.Pg
def wref:V:=.ref [i 1,i 2,i 3,i 1,.list false [[i 2],[i 2]],.list false [[i 2],[i 3]],.list false [[row [3]],[row [0,3]]],.list false [[i 0,i 0]],.list false [],.list false [[.list false [[i 3]]],[.list false [[i 0],[i 3]]]],.any,.any]
def tabE:Known:=[
 (87,[i 0,i 0],i 0),
 (87,[i 0,i 1],i 1),
 (87,[i 0,i 2],i 2),
 (87,[i 0,i 3],i 1),
 (87,[i 1,i 0],i 1),
 (87,[i 1,i 1],i 0),
 (87,[i 1,i 2],i 1),
 (87,[i 1,i 3],i 2),
 (87,[i 2,i 0],i 2),
 (87,[i 2,i 1],i 1),
 (87,[i 2,i 2],i 0),
 (87,[i 2,i 3],i 1),
 (87,[i 3,i 0],i 1),
 (87,[i 3,i 1],i 2),
 (87,[i 3,i 2],i 1),
 (87,[i 3,i 3],i 0),
 (82,[wref,i 0,.agg [i 0,i 0,i 0]],.agg [i 0,i 0]),
 (82,[wref,i 0,.agg [i 0,i 1,i 0]],.agg [i 0,i 0]),
 (82,[wref,i 0,.agg [i 0,i 2,i 0]],.agg [i 0,i 0]),
 (82,[wref,i 0,.agg [i 0,i 3,i 0]],.agg [i 0,i 0]),
 (82,[wref,i 0,.agg [i 1,i 0,i 0]],.agg [i 0,i 0]),
 (82,[wref,i 0,.agg [i 1,i 1,i 0]],.agg [i 0,i 0]),
 (82,[wref,i 0,.agg [i 1,i 2,i 0]],.agg [i 0,i 0]),
 (82,[wref,i 0,.agg [i 1,i 3,i 0]],.agg [i 0,i 0]),
 (82,[wref,i 0,.agg [i 2,i 0,i 0]],.agg [i 1,i 1]),
 (82,[wref,i 0,.agg [i 2,i 1,i 0]],.agg [i 1,i 1]),
 (82,[wref,i 0,.agg [i 2,i 2,i 0]],.agg [i 1,i 1]),
 (82,[wref,i 0,.agg [i 2,i 3,i 0]],.agg [i 1,i 1]),
 (82,[wref,i 0,.agg [i 3,i 0,i 0]],.agg [i 0,i 0]),
 (82,[wref,i 0,.agg [i 3,i 1,i 0]],.agg [i 0,i 0]),
 (82,[wref,i 0,.agg [i 3,i 2,i 0]],.agg [i 0,i 0]),
 (82,[wref,i 0,.agg [i 3,i 3,i 0]],.agg [i 0,i 0]),
 (82,[wref,i 1,.agg [i 0,i 0,i 0]],.agg [i 0,i 0]),
 (82,[wref,i 1,.agg [i 0,i 1,i 0]],.agg [i 0,i 0]),
 (82,[wref,i 1,.agg [i 0,i 2,i 0]],.agg [i 0,i 0]),
 (82,[wref,i 1,.agg [i 0,i 3,i 0]],.agg [i 0,i 1]),
 (82,[wref,i 1,.agg [i 1,i 0,i 0]],.agg [i 0,i 0]),
 (82,[wref,i 1,.agg [i 1,i 1,i 0]],.agg [i 0,i 0]),
 (82,[wref,i 1,.agg [i 1,i 2,i 0]],.agg [i 0,i 0]),
 (82,[wref,i 1,.agg [i 1,i 3,i 0]],.agg [i 0,i 1]),
 (82,[wref,i 1,.agg [i 2,i 0,i 0]],.agg [i 0,i 0]),
 (82,[wref,i 1,.agg [i 2,i 1,i 0]],.agg [i 0,i 0]),
 (82,[wref,i 1,.agg [i 2,i 2,i 0]],.agg [i 0,i 0]),
 (82,[wref,i 1,.agg [i 2,i 3,i 0]],.agg [i 0,i 1]),
 (82,[wref,i 1,.agg [i 3,i 0,i 0]],.agg [i 0,i 1]),
 (82,[wref,i 1,.agg [i 3,i 1,i 0]],.agg [i 0,i 1]),
 (82,[wref,i 1,.agg [i 3,i 2,i 0]],.agg [i 0,i 1]),
 (82,[wref,i 1,.agg [i 3,i 3,i 0]],.agg [i 1,i 1])]
theorem hP:ProgOK Try.prog:=⟨by kernel_rfl,by kernel_rfl⟩
theorem knA {P:Program} (hP:ProgOK P) {A:Ann} {kn:CF0} (hkn:CallX0 P kn) {t:Known} (ht:KnOK P t) {n:Nat} {f:FuncId} {args:List V} {r:V} (h:call0 P (execA P A kn n) f args = some r):KnOK P ((f,args,r) :: t) :=
 knOK_add ht (call0_ok hP (execA_ok hP hkn n) _ _ _ h)
set_option maxRecDepth 100000
theorem e0:call0 Try.prog ex0 87 [i 0,i 0] = some (i 0):=by kernel_rfl
theorem e1:call0 Try.prog ex0 87 [i 0,i 1] = some (i 1):=by kernel_rfl
theorem e2:call0 Try.prog ex0 87 [i 0,i 2] = some (i 2):=by kernel_rfl
theorem e3:call0 Try.prog ex0 87 [i 0,i 3] = some (i 1):=by kernel_rfl
theorem e4:call0 Try.prog ex0 87 [i 1,i 0] = some (i 1):=by kernel_rfl
theorem e5:call0 Try.prog ex0 87 [i 1,i 1] = some (i 0):=by kernel_rfl
theorem e6:call0 Try.prog ex0 87 [i 1,i 2] = some (i 1):=by kernel_rfl
theorem e7:call0 Try.prog ex0 87 [i 1,i 3] = some (i 2):=by kernel_rfl
theorem e8:call0 Try.prog ex0 87 [i 2,i 0] = some (i 2):=by kernel_rfl
theorem e9:call0 Try.prog ex0 87 [i 2,i 1] = some (i 1):=by kernel_rfl
theorem e10:call0 Try.prog ex0 87 [i 2,i 2] = some (i 0):=by kernel_rfl
theorem e11:call0 Try.prog ex0 87 [i 2,i 3] = some (i 1):=by kernel_rfl
theorem e12:call0 Try.prog ex0 87 [i 3,i 0] = some (i 1):=by kernel_rfl
theorem e13:call0 Try.prog ex0 87 [i 3,i 1] = some (i 2):=by kernel_rfl
theorem e14:call0 Try.prog ex0 87 [i 3,i 2] = some (i 1):=by kernel_rfl
theorem e15:call0 Try.prog ex0 87 [i 3,i 3] = some (i 0):=by kernel_rfl
theorem e16:call0 Try.prog ex0 82 [wref,i 0,.agg [i 0,i 0,i 0]] = some (.agg [i 0,i 0]):=by kernel_rfl
theorem e17:call0 Try.prog ex0 82 [wref,i 0,.agg [i 0,i 1,i 0]] = some (.agg [i 0,i 0]):=by kernel_rfl
theorem e18:call0 Try.prog ex0 82 [wref,i 0,.agg [i 0,i 2,i 0]] = some (.agg [i 0,i 0]):=by kernel_rfl
theorem e19:call0 Try.prog ex0 82 [wref,i 0,.agg [i 0,i 3,i 0]] = some (.agg [i 0,i 0]):=by kernel_rfl
theorem e20:call0 Try.prog ex0 82 [wref,i 0,.agg [i 1,i 0,i 0]] = some (.agg [i 0,i 0]):=by kernel_rfl
theorem e21:call0 Try.prog ex0 82 [wref,i 0,.agg [i 1,i 1,i 0]] = some (.agg [i 0,i 0]):=by kernel_rfl
theorem e22:call0 Try.prog ex0 82 [wref,i 0,.agg [i 1,i 2,i 0]] = some (.agg [i 0,i 0]):=by kernel_rfl
theorem e23:call0 Try.prog ex0 82 [wref,i 0,.agg [i 1,i 3,i 0]] = some (.agg [i 0,i 0]):=by kernel_rfl
theorem e24:call0 Try.prog ex0 82 [wref,i 0,.agg [i 2,i 0,i 0]] = some (.agg [i 1,i 1]):=by kernel_rfl
theorem e25:call0 Try.prog ex0 82 [wref,i 0,.agg [i 2,i 1,i 0]] = some (.agg [i 1,i 1]):=by kernel_rfl
theorem e26:call0 Try.prog ex0 82 [wref,i 0,.agg [i 2,i 2,i 0]] = some (.agg [i 1,i 1]):=by kernel_rfl
theorem e27:call0 Try.prog ex0 82 [wref,i 0,.agg [i 2,i 3,i 0]] = some (.agg [i 1,i 1]):=by kernel_rfl
theorem e28:call0 Try.prog ex0 82 [wref,i 0,.agg [i 3,i 0,i 0]] = some (.agg [i 0,i 0]):=by kernel_rfl
theorem e29:call0 Try.prog ex0 82 [wref,i 0,.agg [i 3,i 1,i 0]] = some (.agg [i 0,i 0]):=by kernel_rfl
theorem e30:call0 Try.prog ex0 82 [wref,i 0,.agg [i 3,i 2,i 0]] = some (.agg [i 0,i 0]):=by kernel_rfl
theorem e31:call0 Try.prog ex0 82 [wref,i 0,.agg [i 3,i 3,i 0]] = some (.agg [i 0,i 0]):=by kernel_rfl
theorem e32:call0 Try.prog ex0 82 [wref,i 1,.agg [i 0,i 0,i 0]] = some (.agg [i 0,i 0]):=by kernel_rfl
theorem e33:call0 Try.prog ex0 82 [wref,i 1,.agg [i 0,i 1,i 0]] = some (.agg [i 0,i 0]):=by kernel_rfl
theorem e34:call0 Try.prog ex0 82 [wref,i 1,.agg [i 0,i 2,i 0]] = some (.agg [i 0,i 0]):=by kernel_rfl
theorem e35:call0 Try.prog ex0 82 [wref,i 1,.agg [i 0,i 3,i 0]] = some (.agg [i 0,i 1]):=by kernel_rfl
theorem e36:call0 Try.prog ex0 82 [wref,i 1,.agg [i 1,i 0,i 0]] = some (.agg [i 0,i 0]):=by kernel_rfl
theorem e37:call0 Try.prog ex0 82 [wref,i 1,.agg [i 1,i 1,i 0]] = some (.agg [i 0,i 0]):=by kernel_rfl
theorem e38:call0 Try.prog ex0 82 [wref,i 1,.agg [i 1,i 2,i 0]] = some (.agg [i 0,i 0]):=by kernel_rfl
theorem e39:call0 Try.prog ex0 82 [wref,i 1,.agg [i 1,i 3,i 0]] = some (.agg [i 0,i 1]):=by kernel_rfl
theorem e40:call0 Try.prog ex0 82 [wref,i 1,.agg [i 2,i 0,i 0]] = some (.agg [i 0,i 0]):=by kernel_rfl
theorem e41:call0 Try.prog ex0 82 [wref,i 1,.agg [i 2,i 1,i 0]] = some (.agg [i 0,i 0]):=by kernel_rfl
theorem e42:call0 Try.prog ex0 82 [wref,i 1,.agg [i 2,i 2,i 0]] = some (.agg [i 0,i 0]):=by kernel_rfl
theorem e43:call0 Try.prog ex0 82 [wref,i 1,.agg [i 2,i 3,i 0]] = some (.agg [i 0,i 1]):=by kernel_rfl
theorem e44:call0 Try.prog ex0 82 [wref,i 1,.agg [i 3,i 0,i 0]] = some (.agg [i 0,i 1]):=by kernel_rfl
theorem e45:call0 Try.prog ex0 82 [wref,i 1,.agg [i 3,i 1,i 0]] = some (.agg [i 0,i 1]):=by kernel_rfl
theorem e46:call0 Try.prog ex0 82 [wref,i 1,.agg [i 3,i 2,i 0]] = some (.agg [i 0,i 1]):=by kernel_rfl
theorem e47:call0 Try.prog ex0 82 [wref,i 1,.agg [i 3,i 3,i 0]] = some (.agg [i 1,i 1]):=by kernel_rfl
theorem tabE_ok:KnOK Try.prog tabE :=
 knA hP knOK_nil (knA hP knOK_nil (knA hP knOK_nil (knA hP knOK_nil (knA hP knOK_nil (knA hP knOK_nil (knA hP knOK_nil (knA hP knOK_nil (knA hP knOK_nil (knA hP knOK_nil (knA hP knOK_nil (knA hP knOK_nil (knA hP knOK_nil (knA hP knOK_nil (knA hP knOK_nil (knA hP knOK_nil (knA hP knOK_nil (knA hP knOK_nil (knA hP knOK_nil (knA hP knOK_nil (knA hP knOK_nil (knA hP knOK_nil (knA hP knOK_nil (knA hP knOK_nil (knA hP knOK_nil (knA hP knOK_nil (knA hP knOK_nil (knA hP knOK_nil (knA hP knOK_nil (knA hP knOK_nil (knA hP knOK_nil (knA hP knOK_nil (knA hP knOK_nil (knA hP knOK_nil (knA hP knOK_nil (knA hP knOK_nil (knA hP knOK_nil (knA hP knOK_nil (knA hP knOK_nil (knA hP knOK_nil (knA hP knOK_nil (knA hP knOK_nil (knA hP knOK_nil (knA hP knOK_nil (knA hP knOK_nil (knA hP knOK_nil (knA hP knOK_nil (knA hP knOK_nil knOK_nil e47) e46) e45) e44) e43) e42) e41) e40) e39) e38) e37) e36) e35) e34) e33) e32) e31) e30) e29) e28) e27) e26) e25) e24) e23) e22) e21) e20) e19) e18) e17) e16) e15) e14) e13) e12) e11) e10) e9) e8) e7) e6) e5) e4) e3) e2) e1) e0
end Go.Proofs.Try.Kn
