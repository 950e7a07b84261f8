/- The seat's ground: how the closed examples are computed, and the chapter's beach. No condition. -/
import Derived.Test.YtkemmiljbaneoaaGc
import Derived.Test.YtkemmiljbaneoaaQb
namespace Go.Proofs.Try.Kn
open Go Go.Pg
def i (n:Int):V:=.int .i64 n
def row (l:List Int):V:=.list true (l.map fun n=>[i n])
def BB (n:Nat):V:=.agg [i 1,i 2,i 3,i 1,.list false [[i 2],[i 2]],.list false [[i 2],[i 3]],.list false [[row [3]],[row [0,3]]],.list false [[i 0,i 0]],.list false ([[i 1,i 3],[i 1,i 0]].take n)]
def stay:V:=.list false [[row [2,2]],[row [2,2]]]
def turn:V:=.list false [[row [2,2]],[row [3,3]]]
noncomputable def ex0:RecN:=execA Try.prog annC (knX []) 300
end Go.Proofs.Try.Kn
