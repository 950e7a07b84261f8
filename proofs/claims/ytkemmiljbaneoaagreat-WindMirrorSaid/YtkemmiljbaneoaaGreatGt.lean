/- What the seat's types come to. No condition. -/
import Derived.Test.YtkemmiljbaneoaaGreatChecked
import Derived.Test.YtkemmiljbaneoaaGreatSx
namespace Go.Proofs.Tryz.Op
open Go Go.Pg
theorem build_of {P:Program} {T:TypeId} {z:List V} {fs:Array Field} {tab:List (Nat × Nat)} (hz:zeroC P T = some z) (hu:P.underlying T = some (.struct fs)) (hi:(fs.all fun f=>(P.info? f.type).isSome) = true) (ht:fs.toList.map (fun f=>(f.offset,P.cellsOf f.type)) = tab) (ps:List (Nat × V)) :
  evBuild P T ps = if (ps.all fun p=>flatOk p.2) = true then ma1 .agg (fillV (fun i=>tab[i]?) z ps) else none:=by
 have e:(fun i:Nat=>(fs[i]?).map fun (f:Field)=>(f.offset,P.cellsOf f.type)) = fun i=>tab[i]?:=by
  funext i
  rw [← ht,List.getElem?_map]
  simp
 unfold evBuild
 rw [hz,hu]
 simp only [hi,and_true,e]
 cases fillV (fun i=>tab[i]?) z ps <;> rfl
@[simp] theorem cells_3:Tryz.prog.cellsOf 3 = 1:=by kernel_rfl
@[simp] theorem bytes_3:Tryz.prog.bytesOf 3 = 8:=by kernel_rfl
@[simp] theorem zero_3:zeroC Tryz.prog 3 = some [.int .i64 0]:=by kernel_rfl
@[simp] theorem zok_3:zOk Tryz.prog 3 = true:=by kernel_rfl
@[simp] theorem whole_3 (cs:List V):whole Tryz.prog 3 cs = cs[0]?:=by kernel_rfl
@[simp] theorem part_3 (cs:List V) (o:Nat):partV Tryz.prog 3 cs o = cs[o]?:=by kernel_rfl
@[simp] theorem cells_4:Tryz.prog.cellsOf 4 = 1:=by kernel_rfl
@[simp] theorem zero_4:zeroC Tryz.prog 4 = some [.bool false]:=by kernel_rfl
@[simp] theorem whole_4 (cs:List V):whole Tryz.prog 4 cs = cs[0]?:=by kernel_rfl
@[simp] theorem cells_22:Tryz.prog.cellsOf 22 = 1:=by kernel_rfl
@[simp] theorem bytes_22:Tryz.prog.bytesOf 22 = 24:=by kernel_rfl
@[simp] theorem zero_22:zeroC Tryz.prog 22 = some [.nil]:=by kernel_rfl
@[simp] theorem zok_22:zOk Tryz.prog 22 = true:=by kernel_rfl
@[simp] theorem whole_22 (cs:List V):whole Tryz.prog 22 cs = cs[0]?:=by kernel_rfl
@[simp] theorem elem_22:elemT Tryz.prog 22 = (some (none,3)):=by kernel_rfl
@[simp] theorem isS_22:sliceT Tryz.prog 22 = true:=by kernel_rfl
@[simp] theorem cells_23:Tryz.prog.cellsOf 23 = 1:=by kernel_rfl
@[simp] theorem whole_23 (cs:List V):whole Tryz.prog 23 cs = cs[0]?:=by kernel_rfl
@[simp] theorem elem_23:elemT Tryz.prog 23 = (some (none,22)):=by kernel_rfl
@[simp] theorem isS_23:sliceT Tryz.prog 23 = true:=by kernel_rfl
@[simp] theorem cells_24:Tryz.prog.cellsOf 24 = 1:=by kernel_rfl
@[simp] theorem whole_24 (cs:List V):whole Tryz.prog 24 cs = cs[0]?:=by kernel_rfl
@[simp] theorem elem_24:elemT Tryz.prog 24 = (some (none,50)):=by kernel_rfl
@[simp] theorem isS_24:sliceT Tryz.prog 24 = true:=by kernel_rfl
@[simp] theorem cells_25:Tryz.prog.cellsOf 25 = 1:=by kernel_rfl
@[simp] theorem whole_25 (cs:List V):whole Tryz.prog 25 cs = cs[0]?:=by kernel_rfl
@[simp] theorem elem_25:elemT Tryz.prog 25 = (some (none,101)):=by kernel_rfl
@[simp] theorem isS_25:sliceT Tryz.prog 25 = true:=by kernel_rfl
@[simp] theorem cells_27:Tryz.prog.cellsOf 27 = 9:=by kernel_rfl
@[simp] theorem zero_27:zeroC Tryz.prog 27 = some [.int .i64 0,.int .i64 0,.int .i64 0,.int .i64 0,.nil,.nil,.nil,.nil,.nil]:=by kernel_rfl
@[simp] theorem whole_27 (cs:List V):whole Tryz.prog 27 cs = if 9≤cs.length then some (.agg (cs.take 9)) else none:=by kernel_rfl
@[simp] theorem fld_27_0:fieldP Tryz.prog 27 0 = some (3,0):=by kernel_rfl
@[simp] theorem fld_27_1:fieldP Tryz.prog 27 1 = some (3,1):=by kernel_rfl
@[simp] theorem fld_27_2:fieldP Tryz.prog 27 2 = some (3,2):=by kernel_rfl
@[simp] theorem fld_27_3:fieldP Tryz.prog 27 3 = some (3,3):=by kernel_rfl
@[simp] theorem fld_27_4:fieldP Tryz.prog 27 4 = some (22,4):=by kernel_rfl
@[simp] theorem fld_27_5:fieldP Tryz.prog 27 5 = some (22,5):=by kernel_rfl
@[simp] theorem fld_27_6:fieldP Tryz.prog 27 6 = some (23,6):=by kernel_rfl
@[simp] theorem fld_27_7:fieldP Tryz.prog 27 7 = some (24,7):=by kernel_rfl
@[simp] theorem fld_27_8:fieldP Tryz.prog 27 8 = some (25,8):=by kernel_rfl
@[simp] theorem cells_34:Tryz.prog.cellsOf 34 = 1:=by kernel_rfl
@[simp] theorem whole_34 (cs:List V):whole Tryz.prog 34 cs = cs[0]?:=by kernel_rfl
@[simp] theorem elem_34:elemT Tryz.prog 34 = (some (none,65)):=by kernel_rfl
@[simp] theorem isS_34:sliceT Tryz.prog 34 = true:=by kernel_rfl
@[simp] theorem cells_35:Tryz.prog.cellsOf 35 = 1:=by kernel_rfl
@[simp] theorem whole_35 (cs:List V):whole Tryz.prog 35 cs = cs[0]?:=by kernel_rfl
@[simp] theorem elem_35:elemT Tryz.prog 35 = (some (none,126)):=by kernel_rfl
@[simp] theorem isS_35:sliceT Tryz.prog 35 = true:=by kernel_rfl
@[simp] theorem cells_37:Tryz.prog.cellsOf 37 = 9:=by kernel_rfl
@[simp] theorem zero_37:zeroC Tryz.prog 37 = some [.int .i64 0,.int .i64 0,.int .i64 0,.int .i64 0,.nil,.nil,.nil,.nil,.nil]:=by kernel_rfl
@[simp] theorem whole_37 (cs:List V):whole Tryz.prog 37 cs = if 9≤cs.length then some (.agg (cs.take 9)) else none:=by kernel_rfl
@[simp] theorem fld_37_0:fieldP Tryz.prog 37 0 = some (3,0):=by kernel_rfl
@[simp] theorem fld_37_1:fieldP Tryz.prog 37 1 = some (3,1):=by kernel_rfl
@[simp] theorem fld_37_2:fieldP Tryz.prog 37 2 = some (3,2):=by kernel_rfl
@[simp] theorem fld_37_3:fieldP Tryz.prog 37 3 = some (3,3):=by kernel_rfl
@[simp] theorem fld_37_4:fieldP Tryz.prog 37 4 = some (22,4):=by kernel_rfl
@[simp] theorem fld_37_5:fieldP Tryz.prog 37 5 = some (22,5):=by kernel_rfl
@[simp] theorem fld_37_6:fieldP Tryz.prog 37 6 = some (23,6):=by kernel_rfl
@[simp] theorem fld_37_7:fieldP Tryz.prog 37 7 = some (34,7):=by kernel_rfl
@[simp] theorem fld_37_8:fieldP Tryz.prog 37 8 = some (35,8):=by kernel_rfl
@[simp] theorem build_37 (ps:List (Nat × V)):evBuild Tryz.prog 37 ps = if (ps.all fun p=>flatOk p.2) = true then ma1 .agg (fillV (fun i=>[(0,1),(1,1),(2,1),(3,1),(4,1),(5,1),(6,1),(7,1),(8,1)][i]?) [.int .i64 0,.int .i64 0,.int .i64 0,.int .i64 0,.nil,.nil,.nil,.nil,.nil] ps) else none:=build_of (by kernel_rfl) Tryz.underlying37 (by kernel_rfl) (by kernel_rfl) ps
@[simp] theorem cells_50:Tryz.prog.cellsOf 50 = 2:=by kernel_rfl
@[simp] theorem bytes_50:Tryz.prog.bytesOf 50 = 16:=by kernel_rfl
@[simp] theorem zero_50:zeroC Tryz.prog 50 = some [.int .i64 0,.int .i64 0]:=by kernel_rfl
@[simp] theorem zok_50:zOk Tryz.prog 50 = true:=by kernel_rfl
@[simp] theorem whole_50 (cs:List V):whole Tryz.prog 50 cs = if 2≤cs.length then some (.agg (cs.take 2)) else none:=by kernel_rfl
@[simp] theorem fld_50_0:fieldP Tryz.prog 50 0 = some (3,0):=by kernel_rfl
@[simp] theorem fld_50_1:fieldP Tryz.prog 50 1 = some (3,1):=by kernel_rfl
@[simp] theorem build_50 (ps:List (Nat × V)):evBuild Tryz.prog 50 ps = if (ps.all fun p=>flatOk p.2) = true then ma1 .agg (fillV (fun i=>[(0,1),(1,1)][i]?) [.int .i64 0,.int .i64 0] ps) else none:=build_of (by kernel_rfl) Tryz.underlying50 (by kernel_rfl) (by kernel_rfl) ps
@[simp] theorem cells_55:Tryz.prog.cellsOf 55 = 2:=by kernel_rfl
@[simp] theorem zero_55:zeroC Tryz.prog 55 = some [.int .i64 0,.int .i64 0]:=by kernel_rfl
@[simp] theorem whole_55 (cs:List V):whole Tryz.prog 55 cs = if 2≤cs.length then some (.agg (cs.take 2)) else none:=by kernel_rfl
@[simp] theorem fld_55_0:fieldP Tryz.prog 55 0 = some (3,0):=by kernel_rfl
@[simp] theorem fld_55_1:fieldP Tryz.prog 55 1 = some (3,1):=by kernel_rfl
@[simp] theorem build_55 (ps:List (Nat × V)):evBuild Tryz.prog 55 ps = if (ps.all fun p=>flatOk p.2) = true then ma1 .agg (fillV (fun i=>[(0,1),(1,1)][i]?) [.int .i64 0,.int .i64 0] ps) else none:=build_of (by kernel_rfl) Tryz.underlying55 (by kernel_rfl) (by kernel_rfl) ps
@[simp] theorem cells_65:Tryz.prog.cellsOf 65 = 2:=by kernel_rfl
@[simp] theorem bytes_65:Tryz.prog.bytesOf 65 = 16:=by kernel_rfl
@[simp] theorem zero_65:zeroC Tryz.prog 65 = some [.int .i64 0,.int .i64 0]:=by kernel_rfl
@[simp] theorem zok_65:zOk Tryz.prog 65 = true:=by kernel_rfl
@[simp] theorem whole_65 (cs:List V):whole Tryz.prog 65 cs = if 2≤cs.length then some (.agg (cs.take 2)) else none:=by kernel_rfl
@[simp] theorem fld_65_0:fieldP Tryz.prog 65 0 = some (3,0):=by kernel_rfl
@[simp] theorem fld_65_1:fieldP Tryz.prog 65 1 = some (3,1):=by kernel_rfl
@[simp] theorem build_65 (ps:List (Nat × V)):evBuild Tryz.prog 65 ps = if (ps.all fun p=>flatOk p.2) = true then ma1 .agg (fillV (fun i=>[(0,1),(1,1)][i]?) [.int .i64 0,.int .i64 0] ps) else none:=build_of (by kernel_rfl) Tryz.underlying65 (by kernel_rfl) (by kernel_rfl) ps
@[simp] theorem elem_87:elemT Tryz.prog 87 = (some (none,95)):=by kernel_rfl
@[simp] theorem isS_87:sliceT Tryz.prog 87 = true:=by kernel_rfl
@[simp] theorem cells_95:Tryz.prog.cellsOf 95 = 1:=by kernel_rfl
@[simp] theorem whole_95 (cs:List V):whole Tryz.prog 95 cs = cs[0]?:=by kernel_rfl
@[simp] theorem cells_101:Tryz.prog.cellsOf 101 = 2:=by kernel_rfl
@[simp] theorem bytes_101:Tryz.prog.bytesOf 101 = 16:=by kernel_rfl
@[simp] theorem zero_101:zeroC Tryz.prog 101 = some [.int .i64 0,.int .i64 0]:=by kernel_rfl
@[simp] theorem zok_101:zOk Tryz.prog 101 = true:=by kernel_rfl
@[simp] theorem fld_101_0:fieldP Tryz.prog 101 0 = some (3,0):=by kernel_rfl
@[simp] theorem fld_101_1:fieldP Tryz.prog 101 1 = some (3,1):=by kernel_rfl
@[simp] theorem build_101 (ps:List (Nat × V)):evBuild Tryz.prog 101 ps = if (ps.all fun p=>flatOk p.2) = true then ma1 .agg (fillV (fun i=>[(0,1),(1,1)][i]?) [.int .i64 0,.int .i64 0] ps) else none:=build_of (by kernel_rfl) Tryz.underlying101 (by kernel_rfl) (by kernel_rfl) ps
@[simp] theorem elem_103:elemT Tryz.prog 103 = (some (none,108)):=by kernel_rfl
@[simp] theorem isS_103:sliceT Tryz.prog 103 = true:=by kernel_rfl
@[simp] theorem cells_107:Tryz.prog.cellsOf 107 = 3:=by kernel_rfl
@[simp] theorem bytes_107:Tryz.prog.bytesOf 107 = 24:=by kernel_rfl
@[simp] theorem zero_107:zeroC Tryz.prog 107 = some [.int .i64 0,.int .i64 0,.int .i64 0]:=by kernel_rfl
@[simp] theorem whole_107 (cs:List V):whole Tryz.prog 107 cs = if 3≤cs.length then some (.agg (cs.take 3)) else none:=by kernel_rfl
@[simp] theorem fld_107_0:fieldP Tryz.prog 107 0 = some (3,0):=by kernel_rfl
@[simp] theorem fld_107_1:fieldP Tryz.prog 107 1 = some (3,1):=by kernel_rfl
@[simp] theorem fld_107_2:fieldP Tryz.prog 107 2 = some (3,2):=by kernel_rfl
@[simp] theorem cells_108:Tryz.prog.cellsOf 108 = 1:=by kernel_rfl
@[simp] theorem bytes_108:Tryz.prog.bytesOf 108 = 24:=by kernel_rfl
@[simp] theorem zero_108:zeroC Tryz.prog 108 = some [.nil]:=by kernel_rfl
@[simp] theorem zok_108:zOk Tryz.prog 108 = true:=by kernel_rfl
@[simp] theorem whole_108 (cs:List V):whole Tryz.prog 108 cs = cs[0]?:=by kernel_rfl
@[simp] theorem elem_108:elemT Tryz.prog 108 = (some (none,107)):=by kernel_rfl
@[simp] theorem isS_108:sliceT Tryz.prog 108 = true:=by kernel_rfl
@[simp] theorem cells_126:Tryz.prog.cellsOf 126 = 2:=by kernel_rfl
@[simp] theorem bytes_126:Tryz.prog.bytesOf 126 = 16:=by kernel_rfl
@[simp] theorem zero_126:zeroC Tryz.prog 126 = some [.int .i64 0,.int .i64 0]:=by kernel_rfl
@[simp] theorem zok_126:zOk Tryz.prog 126 = true:=by kernel_rfl
@[simp] theorem whole_126 (cs:List V):whole Tryz.prog 126 cs = if 2≤cs.length then some (.agg (cs.take 2)) else none:=by kernel_rfl
@[simp] theorem fld_126_0:fieldP Tryz.prog 126 0 = some (3,0):=by kernel_rfl
@[simp] theorem fld_126_1:fieldP Tryz.prog 126 1 = some (3,1):=by kernel_rfl
@[simp] theorem build_126 (ps:List (Nat × V)):evBuild Tryz.prog 126 ps = if (ps.all fun p=>flatOk p.2) = true then ma1 .agg (fillV (fun i=>[(0,1),(1,1)][i]?) [.int .i64 0,.int .i64 0] ps) else none:=build_of (by kernel_rfl) Tryz.underlying126 (by kernel_rfl) (by kernel_rfl) ps
@[simp] theorem cells_127:Tryz.prog.cellsOf 127 = 1:=by kernel_rfl
@[simp] theorem zero_127:zeroC Tryz.prog 127 = some [(.raw (.pointer none))]:=by kernel_rfl
@[simp] theorem whole_127 (cs:List V):whole Tryz.prog 127 cs = cs[0]?:=by kernel_rfl
@[simp] theorem whole_140 (cs:List V):whole Tryz.prog 140 cs = cs[0]?:=by kernel_rfl
@[simp] theorem cells_141:Tryz.prog.cellsOf 141 = 1:=by kernel_rfl
@[simp] theorem zero_141:zeroC Tryz.prog 141 = some [(.raw .nilFunc)]:=by kernel_rfl
@[simp] theorem whole_141 (cs:List V):whole Tryz.prog 141 cs = cs[0]?:=by kernel_rfl
@[simp] theorem cells_142:Tryz.prog.cellsOf 142 = 1:=by kernel_rfl
@[simp] theorem whole_142 (cs:List V):whole Tryz.prog 142 cs = cs[0]?:=by kernel_rfl
@[simp] theorem cells_143:Tryz.prog.cellsOf 143 = 1:=by kernel_rfl
@[simp] theorem whole_143 (cs:List V):whole Tryz.prog 143 cs = cs[0]?:=by kernel_rfl
@[simp] theorem fld_145_0:fieldP Tryz.prog 145 0 = some (37,0):=by kernel_rfl
@[simp] theorem fld_145_1:fieldP Tryz.prog 145 1 = some (23,9):=by kernel_rfl
@[simp] theorem fld_145_2:fieldP Tryz.prog 145 2 = some (142,10):=by kernel_rfl
@[simp] theorem fld_145_3:fieldP Tryz.prog 145 3 = some (143,11):=by kernel_rfl
@[simp] theorem build_145 (ps:List (Nat × V)):evBuild Tryz.prog 145 ps = if (ps.all fun p=>flatOk p.2) = true then ma1 .agg (fillV (fun i=>[(0,9),(9,1),(10,1),(11,1)][i]?) [.int .i64 0,.int .i64 0,.int .i64 0,.int .i64 0,.nil,.nil,.nil,.nil,.nil,.nil,(.raw (.map none)),(.raw (.map none))] ps) else none:=build_of (by kernel_rfl) Tryz.underlying145 (by kernel_rfl) (by kernel_rfl) ps
@[simp] theorem cells_149:Tryz.prog.cellsOf 149 = 3:=by kernel_rfl
@[simp] theorem zero_149:zeroC Tryz.prog 149 = some [.int .i64 0,.int .i64 0,.int .i64 0]:=by kernel_rfl
@[simp] theorem whole_149 (cs:List V):whole Tryz.prog 149 cs = if 3≤cs.length then some (.agg (cs.take 3)) else none:=by kernel_rfl
@[simp] theorem elem_149:elemT Tryz.prog 149 = (some ((some 3),3)):=by kernel_rfl
@[simp] theorem cells_152:Tryz.prog.cellsOf 152 = 5:=by kernel_rfl
@[simp] theorem zero_152:zeroC Tryz.prog 152 = some [.int .i64 0,.int .i64 0,.int .i64 0,.int .i64 0,.int .i64 0]:=by kernel_rfl
@[simp] theorem whole_152 (cs:List V):whole Tryz.prog 152 cs = if 5≤cs.length then some (.agg (cs.take 5)) else none:=by kernel_rfl
@[simp] theorem fld_152_0:fieldP Tryz.prog 152 0 = some (3,0):=by kernel_rfl
@[simp] theorem fld_152_1:fieldP Tryz.prog 152 1 = some (3,1):=by kernel_rfl
@[simp] theorem fld_152_2:fieldP Tryz.prog 152 2 = some (149,2):=by kernel_rfl
@[simp] theorem build_152 (ps:List (Nat × V)):evBuild Tryz.prog 152 ps = if (ps.all fun p=>flatOk p.2) = true then ma1 .agg (fillV (fun i=>[(0,1),(1,1),(2,3)][i]?) [.int .i64 0,.int .i64 0,.int .i64 0,.int .i64 0,.int .i64 0] ps) else none:=build_of (by kernel_rfl) Tryz.underlying152 (by kernel_rfl) (by kernel_rfl) ps
@[simp] theorem cells_154:Tryz.prog.cellsOf 154 = 4:=by kernel_rfl
@[simp] theorem zero_154:zeroC Tryz.prog 154 = some [.int .i64 0,.int .i64 0,.int .i64 0,.int .i64 0]:=by kernel_rfl
@[simp] theorem whole_154 (cs:List V):whole Tryz.prog 154 cs = if 4≤cs.length then some (.agg (cs.take 4)) else none:=by kernel_rfl
@[simp] theorem fld_154_0:fieldP Tryz.prog 154 0 = some (3,0):=by kernel_rfl
@[simp] theorem fld_154_1:fieldP Tryz.prog 154 1 = some (149,1):=by kernel_rfl
@[simp] theorem build_154 (ps:List (Nat × V)):evBuild Tryz.prog 154 ps = if (ps.all fun p=>flatOk p.2) = true then ma1 .agg (fillV (fun i=>[(0,1),(1,3)][i]?) [.int .i64 0,.int .i64 0,.int .i64 0,.int .i64 0] ps) else none:=build_of (by kernel_rfl) Tryz.underlying154 (by kernel_rfl) (by kernel_rfl) ps
@[simp] theorem whole_158 (cs:List V):whole Tryz.prog 158 cs = cs[0]?:=by kernel_rfl
@[simp] theorem whole_163 (cs:List V):whole Tryz.prog 163 cs = cs[0]?:=by kernel_rfl
@[simp] theorem whole_177 (cs:List V):whole Tryz.prog 177 cs = cs[0]?:=by kernel_rfl
@[simp] theorem cells_181:Tryz.prog.cellsOf 181 = 1:=by kernel_rfl
@[simp] theorem zero_181:zeroC Tryz.prog 181 = some [(.raw .nilFunc)]:=by kernel_rfl
@[simp] theorem whole_181 (cs:List V):whole Tryz.prog 181 cs = cs[0]?:=by kernel_rfl
end Go.Proofs.Tryz.Op
