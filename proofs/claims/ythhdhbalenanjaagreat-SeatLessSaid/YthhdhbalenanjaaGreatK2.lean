/- The bounds of the closed examples of Seat, by computing. No condition. -/
import Derived.Test.YthhdhbalenanjaaGreatQc
open Go.Proofs.Tryz renaming prog->bj
set_option maxRecDepth 100000
namespace Go.Proofs.Tryz.Kn
open Go Go.Pg
theorem kb0:EZ bj ex0 117 [BX [[i 0,i 0]],turn]=some (.tup [.list false [[.list false [[i 2,i 0,i 0,i 0,i 0],[i 2,i 1,i 2,i 1,i 2],[i 2,i 0,i 0,i 0,i 0]]],[.list false [[i 2,i 0,i 1,i 0,i 1],[i 2,i 0,i 0,i 0,i 0],[i 2,i 0,i 0,i 0,i 0]]]],i 0]):=by kernel_rfl
theorem kb1:EZ bj ex0 117 [BX [[i 0,i 0],[i 0,i 0]],turn]=some (.tup [.list false [[.list false [[i 2,i 0,i 0,i 0,i 0],[i 2,i 1,i 2,i 1,i 2],[i 2,i 0,i 0,i 0,i 0]]],[.list false [[i 2,i 0,i 1,i 0,i 1],[i 2,i 0,i 0,i 0,i 0],[i 2,i 0,i 0,i 0,i 0]]]],i 0]):=by kernel_rfl
theorem kb2:EZ bj ex0 117 [BX [[i 0,i 0],[i 0,i 1]],turn]=some (.tup [.list false [[.list false [[i 2,i 0,i 0,i 0,i 0],[i 2,i 1,i 2,i 1,i 2],[i 2,i 1,i 2,i 1,i 2]]],[.list false [[i 2,i 0,i 1,i 0,i 1],[i 2,i 0,i 1,i 0,i 1],[i 2,i 0,i 0,i 0,i 0]]]],i 0]):=by kernel_rfl
theorem kb3:EZ bj ex0 117 [BX [[i 0,i 0],[i 0,i 2]],turn]=some (.tup [.list false [[.list false [[i 2,i 0,i 0,i 0,i 0],[i 2,i 1,i 2,i 1,i 2],[i 2,i 0,i 0,i 0,i 0]]],[.list false [[i 2,i 0,i 1,i 0,i 1],[i 2,i 0,i 0,i 0,i 0],[i 2,i 0,i 1,i 0,i 1]]]],i 0]):=by kernel_rfl
theorem kb4:EZ bj ex0 117 [BX [[i 0,i 0],[i 1,i 0]],turn]=some (.tup [.list false [[.list false [[i 2,i 0,i 0,i 0,i 0],[i 2,i 1,i 2,i 1,i 2],[i 2,i 0,i 0,i 0,i 0]]],[.list false [[i 2,i 0,i 1,i 0,i 1],[i 2,i 1,i 2,i 1,i 2],[i 2,i 0,i 0,i 0,i 0]]]],i 0]):=by kernel_rfl
theorem kb5:EZ bj ex0 117 [BX [[i 0,i 0],[i 1,i 1]],turn]=some (.tup [.list false [[.list false [[i 2,i 0,i 0,i 0,i 0],[i 2,i 1,i 2,i 1,i 2],[i 2,i 0,i 0,i 0,i 0]]],[.list false [[i 2,i 0,i 1,i 0,i 1],[i 2,i 0,i 0,i 0,i 0],[i 2,i 1,i 2,i 1,i 2]]]],i 0]):=by kernel_rfl
theorem kb6:EZ bj ex0 117 [BX [[i 0,i 0],[i 1,i 2]],turn]=some (.tup [.list false [[.list false [[i 2,i 0,i 0,i 0,i 0],[i 2,i 1,i 2,i 1,i 2],[i 2,i 0,i 0,i 0,i 0]]],[.list false [[i 2,i 0,i 1,i 0,i 1],[i 2,i 0,i 0,i 0,i 0],[i 2,i 0,i 0,i 0,i 0]]]],i 0]):=by kernel_rfl
open Go Go.Pg
def gF:bG:=[
 (117,[BX [[i 0,i 0]],turn],.tup [.list false [[.list false [[i 2,i 0,i 0,i 0,i 0],[i 2,i 1,i 2,i 1,i 2],[i 2,i 0,i 0,i 0,i 0]]],[.list false [[i 2,i 0,i 1,i 0,i 1],[i 2,i 0,i 0,i 0,i 0],[i 2,i 0,i 0,i 0,i 0]]]],i 0]),
 (117,[BX [[i 0,i 0],[i 0,i 0]],turn],.tup [.list false [[.list false [[i 2,i 0,i 0,i 0,i 0],[i 2,i 1,i 2,i 1,i 2],[i 2,i 0,i 0,i 0,i 0]]],[.list false [[i 2,i 0,i 1,i 0,i 1],[i 2,i 0,i 0,i 0,i 0],[i 2,i 0,i 0,i 0,i 0]]]],i 0]),
 (117,[BX [[i 0,i 0],[i 0,i 1]],turn],.tup [.list false [[.list false [[i 2,i 0,i 0,i 0,i 0],[i 2,i 1,i 2,i 1,i 2],[i 2,i 1,i 2,i 1,i 2]]],[.list false [[i 2,i 0,i 1,i 0,i 1],[i 2,i 0,i 1,i 0,i 1],[i 2,i 0,i 0,i 0,i 0]]]],i 0]),
 (117,[BX [[i 0,i 0],[i 0,i 2]],turn],.tup [.list false [[.list false [[i 2,i 0,i 0,i 0,i 0],[i 2,i 1,i 2,i 1,i 2],[i 2,i 0,i 0,i 0,i 0]]],[.list false [[i 2,i 0,i 1,i 0,i 1],[i 2,i 0,i 0,i 0,i 0],[i 2,i 0,i 1,i 0,i 1]]]],i 0]),
 (117,[BX [[i 0,i 0],[i 1,i 0]],turn],.tup [.list false [[.list false [[i 2,i 0,i 0,i 0,i 0],[i 2,i 1,i 2,i 1,i 2],[i 2,i 0,i 0,i 0,i 0]]],[.list false [[i 2,i 0,i 1,i 0,i 1],[i 2,i 1,i 2,i 1,i 2],[i 2,i 0,i 0,i 0,i 0]]]],i 0]),
 (117,[BX [[i 0,i 0],[i 1,i 1]],turn],.tup [.list false [[.list false [[i 2,i 0,i 0,i 0,i 0],[i 2,i 1,i 2,i 1,i 2],[i 2,i 0,i 0,i 0,i 0]]],[.list false [[i 2,i 0,i 1,i 0,i 1],[i 2,i 0,i 0,i 0,i 0],[i 2,i 1,i 2,i 1,i 2]]]],i 0]),
 (117,[BX [[i 0,i 0],[i 1,i 2]],turn],.tup [.list false [[.list false [[i 2,i 0,i 0,i 0,i 0],[i 2,i 1,i 2,i 1,i 2],[i 2,i 0,i 0,i 0,i 0]]],[.list false [[i 2,i 0,i 1,i 0,i 1],[i 2,i 0,i 0,i 0,i 0],[i 2,i 0,i 0,i 0,i 0]]]],i 0])]
theorem LB:rP bj gF :=
 oM hP GZ (oM hP GZ (oM hP GZ (oM hP GZ (oM hP GZ (oM hP GZ (oM hP GZ (GZ) kb6) kb5) kb4) kb3) kb2) kb1) kb0
end Go.Proofs.Tryz.Kn
