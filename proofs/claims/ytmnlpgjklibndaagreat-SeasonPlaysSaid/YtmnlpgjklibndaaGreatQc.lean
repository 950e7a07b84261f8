/- The seat's ground: how the closed examples are computed, and the court's case. No condition. -/
import Derived.Test.YtmnlpgjklibndaaGreatGc
import Derived.Test.YtmnlpgjklibndaaGreatQb
import Derived.Test.YtmnlpgjklibndaaGreatCb
open Go.Proofs.Tryz renaming prog->bj
namespace Go.Proofs.Tryz.Kn
open Go Go.Pg
def i(n:Int):V:=.int .i64 n
def lw(l:List Int):V:=.list false (l.map fun n=>[i n])
def ln(k c t:Int):List V:=[i k,i c,i t]
def bk:V:=.agg [i 3,i 5,i 20,.list false [ln 1 0 1,ln 1 1 (-1),ln 2 (-1) 1],.list false []]
def tv(l:List (List V)):V:=.list false l
def wd(n:Int)(t:Bool)(x:Int)(o:Bool):List V:=[i n,.bool t,i x,.bool o]
def AKT(w:List V):List V:=[.list true [w]]
def ct(n:Int):V:=.agg [i 3,i 5,i 20,.list false [ln 1 0 1,ln 1 1 (-1),ln 2 (-1) 1],.list false [],.list false [AKT (wd 3 false 0 true),AKT (wd 3 true 2 true),AKT (wd 3 false 0 false)],i n,.list false [wd 3 false 1 false,wd 2 true 0 true,wd 2 false 1 true,wd 3 false 0 false]]
noncomputable def knC(t:ON):CF0:=orC (ZE 78) (knX t)
noncomputable def ex(t:ON):FN:=AF bj A5B (knC t) 300
theorem hP:DK bj:=Op.hP
theorem lP{t:ON}(ht:bT bj t):DZ bj (knC t):=lO (gD Op.is_ok) ht
theorem iT{t u:ON}(ht:bT bj t)(hu:bT bj u){f:FuncId}{args:List V}{r:V}(h:DW bj (ex u) f args=some r):bT bj ((f,args,r)::t) :=
 gG ht (J3 hP (J7 hP (lP hu) 300) _ _ _ h)
end Go.Proofs.Tryz.Kn
