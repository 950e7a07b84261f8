/- The seat's ground: how the closed examples are computed, and the chapter's case. No condition. -/
import Derived.Test.YthhdhbalenanjaaGreatGc
import Derived.Test.YthhdhbalenanjaaGreatQb
namespace Go.Proofs.Tryz.Kn
open Go Go.Pg
def i(n:Int):V:=.int .i64 n
def row(l:List Int):V:=.list true (l.map fun n=>[i n])
def lw(l:List Int):V:=.list false (l.map fun n=>[i n])
def rob(l:List Bool):V:=.list true (l.map fun b=>[.bool b])
def cB(l:List (List V)):List V:=[i 1,i 2,i 3,i 1,.list false [[i 2],[i 2]],.list false [[i 2],[i 3]],.list false [[row [3]],[row [0,3]]],.list false l,.list false []]
def BX(l:List (List V)):V:=.agg (cB l)
def turn:V:=.list false [[row [2,2]],[row [3,3]]]
def fam(s g:Int)(d h:Bool):List V:=[i s,i g,.bool d,.bool h]
def SC(l:List (List V)):V:=.agg (cB [[i 0,i 0]]++[turn,.list false [[rob [true,false,true]],[rob [true,true,true]]],.list false l])
def T8:List V:=fam 2 0 true false
def shy:List V:=fam 2 0 false true
def LK(n:Int):List V:=fam 1 n false false
def NV:V:=.list false [[i 1,i 0],[i 0,i 1]]
noncomputable def ex0:HD:=AF Tryz.prog cI (oL []) 300
theorem hP:EN Tryz.prog:=⟨by kernel_rfl,by kernel_rfl⟩
theorem oM{P:Program}(hP:EN P){A:Ann}{kn:CF0}(hkn:H4 P kn){t:bG}(ht:rP P t){n:Nat}{f:FuncId}{args:List V}{r:V}(h:EZ P (AF P A kn n) f args=some r):rP P ((f,args,r)::t) :=
 AFK ht (aO hP (bP hP hkn n) _ _ _ h)
end Go.Proofs.Tryz.Kn
