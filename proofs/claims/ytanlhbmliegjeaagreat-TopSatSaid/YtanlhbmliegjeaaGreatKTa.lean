/- What the calls of the closed example come to, by computing. No condition. -/
import Derived.Test.YtanlhbmliegjeaaGreatQc
set_option maxRecDepth 100000
namespace Go.Proofs.Tryz.Kn
open Go Go.Pg
def bT:List V:=[i 0,i 1,i 2,i 0,.list false [[i 2]],.list false [[i 2]],.list false [[row [0]]],.list false [],.list false []]
def pT:V:=.list false [[row [2]]]
def cT:V:=.agg (bT++[pT,.list false [[rob [true,true]]],.list false [fam 2 1 false false]])
theorem kTa:KD Tryz.prog ex0 7 [cT]=some (.tup [.list false [[i 0,i 0]],i 2,i 0,i 0]):=by kernel_rfl
theorem kTb:KD Tryz.prog ex0 10 [.agg bT,pT]=some (.tup [.agg [i 2,i 2],i 0]):=by kernel_rfl
end Go.Proofs.Tryz.Kn
