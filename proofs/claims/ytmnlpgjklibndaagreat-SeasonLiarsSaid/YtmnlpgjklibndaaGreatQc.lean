/- The seat's ground: how the closed examples are computed, and the court's case. No condition. -/
import Derived.Test.YtmnlpgjklibndaaGreatGc
import Derived.Test.YtmnlpgjklibndaaGreatQb
import Derived.Test.YtmnlpgjklibndaaGreatCb
open Go.Proofs.Tryz renaming prog->bj
namespace Go.Proofs.Tryz.Kn
open Go Go.Pg
def i(n:Int):V:=.int .i64 n
def lw(l:List Int):V:=.list false (l.map fun n=>[i n])
def ln(k c t:Int):List V:=[i k,i c,i t]
def bk:V:=.agg [i 3,i 5,i 20,.list false [ln 1 0 1,ln 1 1 (-1),ln 2 (-1) 1],.list false []]
def tv(l:List (List V)):V:=.list false l
def wd(n:Int)(t:Bool)(x:Int)(o:Bool):List V:=[i n,.bool t,i x,.bool o]
def AO0(w:List V):List V:=[.list true [w]]
def ct(n:Int):V:=.agg [i 3,i 5,i 20,.list false [ln 1 0 1,ln 1 1 (-1),ln 2 (-1) 1],.list false [],.list false [AO0 (wd 3 false 0 true),AO0 (wd 3 true 2 true),AO0 (wd 3 false 0 false)],i n,.list false [wd 3 false 1 false,wd 2 true 0 true,wd 2 false 1 true,wd 3 false 0 false]]
noncomputable def knC(t:PM):CF0:=orC (bQ 78) (knX t)
noncomputable def ex(t:PM):FK:=AG bj BAI (knC t) 300
theorem hP:DM bj:=Op.hP
theorem pF{t:PM}(ht:eS bj t):EF bj (knC t):=pE (kO Op.is_ok) ht
theorem mL{t u:PM}(ht:eS bj t)(hu:eS bj u){f:FuncId}{args:List V}{r:V}(h:EB bj (ex u) f args=some r):eS bj ((f,args,r)::t) :=
 kT ht (KQ hP (JH hP (pF hu) 300) _ _ _ h)
end Go.Proofs.Tryz.Kn
