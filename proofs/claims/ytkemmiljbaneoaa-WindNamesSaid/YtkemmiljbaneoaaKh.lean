/- The tables of the closed statement WindNames, and what is handed over there. No condition. -/
import Derived.Test.YtkemmiljbaneoaaKg
import Derived.Test.YtkemmiljbaneoaaY0
import Derived.Test.YtkemmiljbaneoaaKWb
import Derived.Test.YtkemmiljbaneoaaKTb
import Derived.Test.YtkemmiljbaneoaaKCb
import Derived.Test.YtkemmiljbaneoaaKCc
import Derived.Test.YtkemmiljbaneoaaKEb
import Derived.Test.YtkemmiljbaneoaaKEc
import Derived.Test.YtkemmiljbaneoaaKLb
import Derived.Test.YtkemmiljbaneoaaKVb
import Derived.Test.YtkemmiljbaneoaaKVc
import Derived.Test.YtkemmiljbaneoaaKVd
import Derived.Test.YtkemmiljbaneoaaKVe
import Derived.Test.YtkemmiljbaneoaaKEd
import Derived.Test.YtkemmiljbaneoaaKTc
import Derived.Test.YtkemmiljbaneoaaKFb
namespace Go.Proofs.Try.Kn
open Go Go.Pg
def lw (l:List Int):V:=.list false (l.map fun n=>[i n])
def fl (l:List Int):V:=.list true (l.map fun n=>[i n])
def fb:V:=.list true [[i 0,i 0]]
def fw:V:=.list true [[row [3]],[row [0,3]]]
def H5:Mk:=⟨.vec 3 [[i 2],[i 3]],some (.agg [i 1,i 2,i 3,i 1,fl [2,2],.vec 0 337 0 2,fw,fb,.list false []])⟩
def H6 (d:Nat):Mk:=⟨.vec 22 [[row [3]],[row [0,3]]],some (.agg [i 1,i 2,i 3,i 1,fl [2,2],fl [2,3],.vec 0 d 0 2,fb,.list false []])⟩
def H7:Mk:=⟨.vec 66 [[i 0,i 0]],some (.agg [i 1,i 2,i 3,i 1,fl [2,2],fl [2,3],fw,.vec 0 340 0 1,.list false []])⟩
def H8:Mk:=⟨.vec 89 [[i 1,i 3],[i 1,i 0]],some (.agg [i 1,i 2,i 3,i 1,fl [2,2],fl [2,3],fw,fb,.vec 0 341 0 1])⟩
def ownN:KnownO:=[(31,[i 0],337,H5),(31,[i 0],338,H6 338),(31,[i 0],339,H6 339),(31,[i 0],340,H7),(31,[i 1],341,H8)]
def litK (l d:Nat):Bool:=Nat.beq d l
noncomputable def exS (l:Nat):RecN:=exec Try.prog (knX []) (koX []) (litK l) 300
set_option maxRecDepth 100000
theorem h5:callH Try.prog (exS 8) 8 31 [i 0] 337 = some H5:=by kernel_rfl
theorem h6:callH Try.prog (exS 11) 11 31 [i 0] 338 = some (H6 338):=by kernel_rfl
theorem h6':callH Try.prog (exS 11) 11 31 [i 0] 339 = some (H6 339):=by kernel_rfl
theorem h7:callH Try.prog (exS 13) 13 31 [i 0] 340 = some H7:=by kernel_rfl
theorem h8:callH Try.prog (exS 6) 6 31 [i 1] 341 = some H8:=by kernel_rfl
theorem ownOK:KoOK Try.prog ownN :=
 koOK_cons (lit:=litK 8) (n:=300) hP knOK_nil koOK_nil (koOK_cons (lit:=litK 11) (n:=300) hP knOK_nil koOK_nil (koOK_cons (lit:=litK 11) (n:=300) hP knOK_nil koOK_nil (koOK_cons (lit:=litK 13) (n:=300) hP knOK_nil koOK_nil (koOK_cons (lit:=litK 6) (n:=300) hP knOK_nil koOK_nil koOK_nil h8) h7) h6') h6) h5
theorem kPd:call0 Try.prog ex0 20 [BB 0,stay,lw [3,0]] = some (.tup [.list false [[.list false [[i 1,i 1,i 0],[i 1,i 2,i 1],[i 1,i 1,i 0]]],[.list false [[i 1,i 1,i 0],[i 1,i 1,i 0],[i 1,i 1,i 0]]]],i 0]):=by kernel_rfl
theorem kRa:call0 Try.prog ex0 35 [BB 0,lw [3,0]] = some (.bool true):=by kernel_rfl
theorem kRb:call0 Try.prog ex0 35 [BB 1,lw [3,0]] = some (.bool false):=by kernel_rfl
theorem kRc:call0 Try.prog ex0 35 [BB 0,lw [0,0]] = some (.bool false):=by kernel_rfl
theorem kPb:call0 Try.prog ex0 20 [BB 0,.list false [[row [2,2]]],lw [3,0]] = some (.tup [.nil,i 2]):=by kernel_rfl
theorem kPc:call0 Try.prog ex0 20 [BB 0,stay,lw [0,0]] = some (.tup [.nil,i 2]):=by kernel_rfl
theorem kWc:call0 Try.prog ex0 34 [BB 0,.list false [[row [2,2]],[row [2,4]]]] = some (.tup [i 0,i 2]):=by kernel_rfl
theorem kCd:call0 Try.prog ex0 24 [BB 2,stay,.agg [i 2,i 0],i 0] = some (.tup [i 0,i 2]):=by kernel_rfl
theorem kCe:call0 Try.prog ex0 24 [BB 0,stay,.agg [i 0,i 0],i 2] = some (.tup [i 0,i 2]):=by kernel_rfl
def tabN:Known:=[
 (11,[],.bool true),
 (33,[BB 0,stay],.tup [.list false [[.list false [[i 1,i 0,i 1,i 0,i 0],[i 1,i 2,i 2,i 1,i 1],[i 1,i 0,i 1,i 0,i 0]]],[.list false [[i 1,i 0,i 1,i 0,i 0],[i 1,i 0,i 1,i 0,i 0],[i 1,i 0,i 1,i 0,i 0]]]],i 0]),
 (34,[BB 0,stay],.tup [i 0,i 0]),
 (13,[BB 0,stay],.tup [.agg [i 1,i 1],i 0]),
 (24,[BB 0,stay,.agg [i 0,i 1],i 0],.tup [i 1,i 0]),
 (24,[BB 0,stay,.agg [i 1,i 1],i 1],.tup [i 3,i 0]),
 (21,[BB 0,i 0],.tup [.list false [[.list false [[i 2],[i 2]]],[.list false [[i 2],[i 2]]]],i 1,i 0]),
 (21,[BB 0,i 5],.tup [.list false [[.list false [[i 2],[i 1]]],[.list false [[i 2],[i 1]]]],i 1,i 0]),
 (23,[BB 1],.tup [.nil,i 0]),
 (36,[BB 0,turn,i 6,i 2],.bool true),
 (36,[BB 0,turn,i 5,i 2],.bool false),
 (36,[BB 0,turn,i 6,i 3],.bool false),
 (36,[BB 2,stay,i 9,i 0],.bool false),
 (21,[BB 2,i 100],.tup [.nil,i 0,i 2]),
 (13,[BB 2,stay],.tup [.agg [i 0,i 0],i 11]),
 (27,[BB 1],.tup [i 0,i 7]),
 (20,[BB 0,stay,lw [3,0]],.tup [.list false [[.list false [[i 1,i 1,i 0],[i 1,i 2,i 1],[i 1,i 1,i 0]]],[.list false [[i 1,i 1,i 0],[i 1,i 1,i 0],[i 1,i 1,i 0]]]],i 0]),
 (35,[BB 0,lw [3,0]],.bool true),
 (35,[BB 1,lw [3,0]],.bool false),
 (35,[BB 0,lw [0,0]],.bool false),
 (20,[BB 0,.list false [[row [2,2]]],lw [3,0]],.tup [.nil,i 2]),
 (20,[BB 0,stay,lw [0,0]],.tup [.nil,i 2]),
 (34,[BB 0,.list false [[row [2,2]],[row [2,4]]]],.tup [i 0,i 2]),
 (24,[BB 2,stay,.agg [i 2,i 0],i 0],.tup [i 0,i 2]),
 (24,[BB 0,stay,.agg [i 0,i 0],i 2],.tup [i 0,i 2])]
theorem tabN_ok:KnOK Try.prog tabN :=
 knA hP tabA_ok (knA hP knOK_nil (knA hP knOK_nil (knA hP knOK_nil (knA hP knOK_nil (knA hP knOK_nil (knA hP tabE_ok (knA hP tabE_ok (knA hP knOK_nil (knA hP knOK_nil (knA hP knOK_nil (knA hP knOK_nil (knA hP knOK_nil (knA hP knOK_nil (knA hP knOK_nil (knA hP knOK_nil (knA hP knOK_nil (knA hP knOK_nil (knA hP knOK_nil (knA hP knOK_nil (knA hP knOK_nil (knA hP knOK_nil (knA hP knOK_nil (knA hP knOK_nil (knA hP knOK_nil (knOK_nil) kCe) kCd) kWc) kPc) kPb) kRc) kRb) kRa) kPd) kFb) kTc) kEd) kVe) kVd) kVc) kVb) kLb) kEc) kEb) kCc) kCb) kTb) kWb) kBa) awake
end Go.Proofs.Try.Kn
