/- What one call of the closed example comes to, by computing. No condition. -/
import Derived.Test.YthhdhbalenanjaaGreatK2
open Go.Proofs.Tryz renaming prog->bj
set_option maxRecDepth 100000
namespace Go.Proofs.Tryz.Kn
open Go Go.Pg
theorem BA9:EM bj (AF bj bW (oF fV) 300) 20 [SC [TY,KW 1],NC,lw [3,0]]=some (.tup [lw [1,1],i 0]):=by kernel_rfl
open Go Go.Pg
theorem BBA:EM bj (AF bj bW (oF fV) 300) 30 [SC [TY,KW 1],NC]=some (.tup [.list false [[i 0,i 1],[i 1,i 2]],i 0]):=by kernel_rfl
open Go Go.Pg
theorem BBB:EM bj (AF bj bW (oF fV) 300) 31 [SC [TY,KW 2],NC]=some (.tup [lw [1,3],i 0]):=by kernel_rfl
open Go Go.Pg
theorem BBC:EM bj (AF bj bW (oF fV) 300) 33 [SC [TY,KW 1]]=some (.tup [NC,i 1,i 1,i 0]):=by kernel_rfl
open Go Go.Pg
theorem BBD:EM bj (AF bj bW (oF fV) 300) 34 [SC [TY,KW 1],NC,i 1,i 1]=some (.bool true):=by kernel_rfl
open Go Go.Pg
theorem BBE:EM bj (AF bj bW (oF fV) 300) 41 [SC [TY,shy,KW 1]]=some (.tup [lw [0],i 0]):=by kernel_rfl
open Go Go.Pg
theorem BBF:EM bj (AF bj bW (oF fV) 300) 42 [SC [TY,shy,KW 1]]=some (.tup [lw [0,1],i 0]):=by kernel_rfl
open Go Go.Pg
theorem BBG:EM bj (AF bj bW (oF fV) 300) 46 [SC [fam 2 0 false false]]=some (.tup [.agg [i 0,i 1],i 2,i 0]):=by kernel_rfl
end Go.Proofs.Tryz.Kn
