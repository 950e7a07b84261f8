/- The seat's ground: how the closed examples are computed, and the court's case. No condition. -/
import Derived.Test.YtmnlpgjklibndaaGreatGc
import Derived.Test.YtmnlpgjklibndaaGreatQb
import Derived.Test.YtmnlpgjklibndaaGreatCb
open Go.Proofs.Tryz renaming prog->bj
namespace Go.Proofs.Tryz.Kn
open Go Go.Pg
def i(n:Int):V:=.int .i64 n
def lw(l:List Int):V:=.list false (l.map fun n=>[i n])
def ln(k c t:Int):List V:=[i k,i c,i t]
def bk:V:=.agg [i 3,i 5,i 20,.list false [ln 1 0 1,ln 1 1 (-1),ln 2 (-1) 1],.list false []]
def tv(l:List (List V)):V:=.list false l
def wd(n:Int)(t:Bool)(x:Int)(o:Bool):List V:=[i n,.bool t,i x,.bool o]
def ATS(w:List V):List V:=[.list true [w]]
def ct(n:Int):V:=.agg [i 3,i 5,i 20,.list false [ln 1 0 1,ln 1 1 (-1),ln 2 (-1) 1],.list false [],.list false [ATS (wd 3 false 0 true),ATS (wd 3 true 2 true),ATS (wd 3 false 0 false)],i n,.list false [wd 3 false 1 false,wd 2 true 0 true,wd 2 false 1 true,wd 3 false 0 false]]
noncomputable def knC(t:QQ):CF0:=orC (eU 78) (knX t)
noncomputable def ex(t:QQ):F6:=AH bj BF1 (knC t) 300
theorem hP:D8 bj:=Op.hP
theorem uC{t:QQ}(ht:iY bj t):EX bj (knC t):=uB (oK Op.is_ok) ht
theorem rG{t u:QQ}(ht:iY bj t)(hu:iY bj u){f:FuncId}{args:List V}{r:V}(h:ES bj (ex u) f args=some r):iY bj ((f,args,r)::t) :=
 oN ht (LV hP (KI hP (uC hu) 300) _ _ _ h)
end Go.Proofs.Tryz.Kn
