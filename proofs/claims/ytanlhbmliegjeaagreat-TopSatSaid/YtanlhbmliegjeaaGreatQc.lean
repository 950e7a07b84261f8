/- The seat's ground: how the closed examples are computed, and the chapter's case. No condition. -/
import Derived.Test.YtanlhbmliegjeaaGreatGc
import Derived.Test.YtanlhbmliegjeaaGreatQb
namespace Go.Proofs.Tryz.Kn
open Go Go.Pg
def i(n:Int):V:=.int .i64 n
def row(l:List Int):V:=.list true (l.map fun n=>[i n])
def rob(l:List Bool):V:=.list true (l.map fun b=>[.bool b])
def turn:V:=.list false [[row [2,2]],[row [3,3]]]
def fam(s g:Int)(d h:Bool):List V:=[i s,i g,.bool d,.bool h]
def shy:List V:=fam 2 0 false true
def BHF(n:Int):List V:=fam 1 n false false
def nJ:V:=.list false [[i 1,i 0],[i 0,i 1]]
noncomputable def ex0:G5:=AE Tryz.prog A0Q (knX []) 300
theorem hP:EG Tryz.prog:=⟨by kernel_rfl,by kernel_rfl⟩
theorem knA{P:Program}(hP:EG P){A:Ann}{kn:CF0}(hkn:HP P kn){t:eN}(ht:zM P t){n:Nat}{f:FuncId}{args:List V}{r:V}(h:KD P (AE P A kn n) f args=some r):zM P ((f,args,r)::t) :=
 AEL ht (aG hP (bB hP hkn n) _ _ _ h)
end Go.Proofs.Tryz.Kn
