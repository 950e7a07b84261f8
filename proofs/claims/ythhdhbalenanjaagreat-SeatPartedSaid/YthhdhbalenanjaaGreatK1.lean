/- What one call of the closed example comes to, by computing. No condition. -/
import Derived.Test.YthhdhbalenanjaaGreatK2
open Go.Proofs.Tryz renaming prog->bj
set_option maxRecDepth 100000
namespace Go.Proofs.Tryz.Kn
open Go Go.Pg
theorem BBW:EG bj (AF bj aT (mX eJ) 300) 20 [SC [TG,KN 1],M9,lw [3,0]]=some (.tup [lw [1,1],i 0]):=by kernel_rfl
open Go Go.Pg
theorem BBX:EG bj (AF bj aT (mX eJ) 300) 30 [SC [TG,KN 1],M9]=some (.tup [.list false [[i 0,i 1],[i 1,i 2]],i 0]):=by kernel_rfl
open Go Go.Pg
theorem BBY:EG bj (AF bj aT (mX eJ) 300) 31 [SC [TG,KN 2],M9]=some (.tup [lw [1,3],i 0]):=by kernel_rfl
open Go Go.Pg
theorem BBZ:EG bj (AF bj aT (mX eJ) 300) 33 [SC [TG,KN 1]]=some (.tup [M9,i 1,i 1,i 0]):=by kernel_rfl
open Go Go.Pg
theorem BB0:EG bj (AF bj aT (mX eJ) 300) 34 [SC [TG,KN 1],M9,i 1,i 1]=some (.bool true):=by kernel_rfl
open Go Go.Pg
theorem BB1:EG bj (AF bj aT (mX eJ) 300) 41 [SC [TG,shy,KN 1]]=some (.tup [lw [0],i 0]):=by kernel_rfl
open Go Go.Pg
theorem BB2:EG bj (AF bj aT (mX eJ) 300) 42 [SC [TG,shy,KN 1]]=some (.tup [lw [0,1],i 0]):=by kernel_rfl
open Go Go.Pg
theorem BB3:EG bj (AF bj aT (mX eJ) 300) 46 [SC [fam 2 0 false false]]=some (.tup [.agg [i 0,i 1],i 2,i 0]):=by kernel_rfl
end Go.Proofs.Tryz.Kn
