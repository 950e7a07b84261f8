/- What the seat's types come to. No condition. -/
import Derived.Test.YtkemmiljbaneoaaChecked
import Derived.Test.YtkemmiljbaneoaaSx
namespace Go.Proofs.Try.Op
open Go Go.Pg
theorem build_of {P:Program} {T:TypeId} {z:List V} {fs:Array Field} {tab:List (Nat × Nat)} (hz:zeroC P T = some z) (hu:P.underlying T = some (.struct fs)) (hi:(fs.all fun f=>(P.info? f.type).isSome) = true) (ht:fs.toList.map (fun f=>(f.offset,P.cellsOf f.type)) = tab) (ps:List (Nat × V)) :
  evBuild P T ps = if (ps.all fun p=>flatOk p.2) = true then ma1 .agg (fillV (fun i=>tab[i]?) z ps) else none:=by
 have e:(fun i:Nat=>(fs[i]?).map fun (f:Field)=>(f.offset,P.cellsOf f.type)) = fun i=>tab[i]?:=by
  funext i
  rw [← ht,List.getElem?_map]
  simp
 unfold evBuild
 rw [hz,hu]
 simp only [hi,and_true,e]
 cases fillV (fun i=>tab[i]?) z ps <;> rfl
@[simp] theorem cells_3:Try.prog.cellsOf 3 = 1:=by kernel_rfl
@[simp] theorem bytes_3:Try.prog.bytesOf 3 = 8:=by kernel_rfl
@[simp] theorem zero_3:zeroC Try.prog 3 = some [.int .i64 0]:=by kernel_rfl
@[simp] theorem zok_3:zOk Try.prog 3 = true:=by kernel_rfl
@[simp] theorem whole_3 (cs:List V):whole Try.prog 3 cs = cs[0]?:=by kernel_rfl
@[simp] theorem part_3 (cs:List V) (o:Nat):partV Try.prog 3 cs o = cs[o]?:=by kernel_rfl
@[simp] theorem cells_4:Try.prog.cellsOf 4 = 1:=by kernel_rfl
@[simp] theorem zero_4:zeroC Try.prog 4 = some [.bool false]:=by kernel_rfl
@[simp] theorem whole_4 (cs:List V):whole Try.prog 4 cs = cs[0]?:=by kernel_rfl
@[simp] theorem cells_22:Try.prog.cellsOf 22 = 1:=by kernel_rfl
@[simp] theorem bytes_22:Try.prog.bytesOf 22 = 24:=by kernel_rfl
@[simp] theorem zero_22:zeroC Try.prog 22 = some [.nil]:=by kernel_rfl
@[simp] theorem zok_22:zOk Try.prog 22 = true:=by kernel_rfl
@[simp] theorem whole_22 (cs:List V):whole Try.prog 22 cs = cs[0]?:=by kernel_rfl
@[simp] theorem elem_22:elemT Try.prog 22 = (some (none,3)):=by kernel_rfl
@[simp] theorem isS_22:sliceT Try.prog 22 = true:=by kernel_rfl
@[simp] theorem cells_23:Try.prog.cellsOf 23 = 1:=by kernel_rfl
@[simp] theorem whole_23 (cs:List V):whole Try.prog 23 cs = cs[0]?:=by kernel_rfl
@[simp] theorem elem_23:elemT Try.prog 23 = (some (none,22)):=by kernel_rfl
@[simp] theorem isS_23:sliceT Try.prog 23 = true:=by kernel_rfl
@[simp] theorem cells_24:Try.prog.cellsOf 24 = 1:=by kernel_rfl
@[simp] theorem whole_24 (cs:List V):whole Try.prog 24 cs = cs[0]?:=by kernel_rfl
@[simp] theorem elem_24:elemT Try.prog 24 = (some (none,48)):=by kernel_rfl
@[simp] theorem isS_24:sliceT Try.prog 24 = true:=by kernel_rfl
@[simp] theorem cells_25:Try.prog.cellsOf 25 = 1:=by kernel_rfl
@[simp] theorem whole_25 (cs:List V):whole Try.prog 25 cs = cs[0]?:=by kernel_rfl
@[simp] theorem elem_25:elemT Try.prog 25 = (some (none,63)):=by kernel_rfl
@[simp] theorem isS_25:sliceT Try.prog 25 = true:=by kernel_rfl
@[simp] theorem cells_27:Try.prog.cellsOf 27 = 9:=by kernel_rfl
@[simp] theorem zero_27:zeroC Try.prog 27 = some [.int .i64 0,.int .i64 0,.int .i64 0,.int .i64 0,.nil,.nil,.nil,.nil,.nil]:=by kernel_rfl
@[simp] theorem whole_27 (cs:List V):whole Try.prog 27 cs = if 9≤cs.length then some (.agg (cs.take 9)) else none:=by kernel_rfl
@[simp] theorem fld_27_0:fieldP Try.prog 27 0 = some (3,0):=by kernel_rfl
@[simp] theorem fld_27_1:fieldP Try.prog 27 1 = some (3,1):=by kernel_rfl
@[simp] theorem fld_27_2:fieldP Try.prog 27 2 = some (3,2):=by kernel_rfl
@[simp] theorem fld_27_3:fieldP Try.prog 27 3 = some (3,3):=by kernel_rfl
@[simp] theorem fld_27_4:fieldP Try.prog 27 4 = some (22,4):=by kernel_rfl
@[simp] theorem fld_27_5:fieldP Try.prog 27 5 = some (22,5):=by kernel_rfl
@[simp] theorem fld_27_6:fieldP Try.prog 27 6 = some (23,6):=by kernel_rfl
@[simp] theorem fld_27_7:fieldP Try.prog 27 7 = some (24,7):=by kernel_rfl
@[simp] theorem fld_27_8:fieldP Try.prog 27 8 = some (25,8):=by kernel_rfl
@[simp] theorem elem_28:elemT Try.prog 28 = (some (none,46)):=by kernel_rfl
@[simp] theorem isS_28:sliceT Try.prog 28 = true:=by kernel_rfl
@[simp] theorem cells_33:Try.prog.cellsOf 33 = 2:=by kernel_rfl
@[simp] theorem zero_33:zeroC Try.prog 33 = some [.int .i64 0,.int .i64 0]:=by kernel_rfl
@[simp] theorem whole_33 (cs:List V):whole Try.prog 33 cs = if 2≤cs.length then some (.agg (cs.take 2)) else none:=by kernel_rfl
@[simp] theorem fld_33_0:fieldP Try.prog 33 0 = some (3,0):=by kernel_rfl
@[simp] theorem fld_33_1:fieldP Try.prog 33 1 = some (3,1):=by kernel_rfl
@[simp] theorem build_33 (ps:List (Nat × V)):evBuild Try.prog 33 ps = if (ps.all fun p=>flatOk p.2) = true then ma1 .agg (fillV (fun i=>[(0,1),(1,1)][i]?) [.int .i64 0,.int .i64 0] ps) else none:=build_of (by kernel_rfl) Try.underlying33 (by kernel_rfl) (by kernel_rfl) ps
@[simp] theorem cells_37:Try.prog.cellsOf 37 = 1:=by kernel_rfl
@[simp] theorem whole_37 (cs:List V):whole Try.prog 37 cs = cs[0]?:=by kernel_rfl
@[simp] theorem elem_37:elemT Try.prog 37 = (some (none,66)):=by kernel_rfl
@[simp] theorem isS_37:sliceT Try.prog 37 = true:=by kernel_rfl
@[simp] theorem cells_38:Try.prog.cellsOf 38 = 1:=by kernel_rfl
@[simp] theorem whole_38 (cs:List V):whole Try.prog 38 cs = cs[0]?:=by kernel_rfl
@[simp] theorem elem_38:elemT Try.prog 38 = (some (none,89)):=by kernel_rfl
@[simp] theorem isS_38:sliceT Try.prog 38 = true:=by kernel_rfl
@[simp] theorem cells_40:Try.prog.cellsOf 40 = 9:=by kernel_rfl
@[simp] theorem zero_40:zeroC Try.prog 40 = some [.int .i64 0,.int .i64 0,.int .i64 0,.int .i64 0,.nil,.nil,.nil,.nil,.nil]:=by kernel_rfl
@[simp] theorem whole_40 (cs:List V):whole Try.prog 40 cs = if 9≤cs.length then some (.agg (cs.take 9)) else none:=by kernel_rfl
@[simp] theorem fld_40_0:fieldP Try.prog 40 0 = some (3,0):=by kernel_rfl
@[simp] theorem fld_40_1:fieldP Try.prog 40 1 = some (3,1):=by kernel_rfl
@[simp] theorem fld_40_2:fieldP Try.prog 40 2 = some (3,2):=by kernel_rfl
@[simp] theorem fld_40_3:fieldP Try.prog 40 3 = some (3,3):=by kernel_rfl
@[simp] theorem fld_40_4:fieldP Try.prog 40 4 = some (22,4):=by kernel_rfl
@[simp] theorem fld_40_5:fieldP Try.prog 40 5 = some (22,5):=by kernel_rfl
@[simp] theorem fld_40_6:fieldP Try.prog 40 6 = some (23,6):=by kernel_rfl
@[simp] theorem fld_40_7:fieldP Try.prog 40 7 = some (37,7):=by kernel_rfl
@[simp] theorem fld_40_8:fieldP Try.prog 40 8 = some (38,8):=by kernel_rfl
@[simp] theorem build_40 (ps:List (Nat × V)):evBuild Try.prog 40 ps = if (ps.all fun p=>flatOk p.2) = true then ma1 .agg (fillV (fun i=>[(0,1),(1,1),(2,1),(3,1),(4,1),(5,1),(6,1),(7,1),(8,1)][i]?) [.int .i64 0,.int .i64 0,.int .i64 0,.int .i64 0,.nil,.nil,.nil,.nil,.nil] ps) else none:=build_of (by kernel_rfl) Try.underlying40 (by kernel_rfl) (by kernel_rfl) ps
@[simp] theorem cells_46:Try.prog.cellsOf 46 = 1:=by kernel_rfl
@[simp] theorem whole_46 (cs:List V):whole Try.prog 46 cs = cs[0]?:=by kernel_rfl
@[simp] theorem cells_48:Try.prog.cellsOf 48 = 2:=by kernel_rfl
@[simp] theorem whole_48 (cs:List V):whole Try.prog 48 cs = if 2≤cs.length then some (.agg (cs.take 2)) else none:=by kernel_rfl
@[simp] theorem fld_48_0:fieldP Try.prog 48 0 = some (3,0):=by kernel_rfl
@[simp] theorem fld_48_1:fieldP Try.prog 48 1 = some (3,1):=by kernel_rfl
@[simp] theorem cells_58:Try.prog.cellsOf 58 = 3:=by kernel_rfl
@[simp] theorem zero_58:zeroC Try.prog 58 = some [.int .i64 0,.int .i64 0,.int .i64 0]:=by kernel_rfl
@[simp] theorem whole_58 (cs:List V):whole Try.prog 58 cs = if 3≤cs.length then some (.agg (cs.take 3)) else none:=by kernel_rfl
@[simp] theorem fld_58_0:fieldP Try.prog 58 0 = some (3,0):=by kernel_rfl
@[simp] theorem fld_58_1:fieldP Try.prog 58 1 = some (3,1):=by kernel_rfl
@[simp] theorem fld_58_2:fieldP Try.prog 58 2 = some (3,2):=by kernel_rfl
@[simp] theorem cells_63:Try.prog.cellsOf 63 = 2:=by kernel_rfl
@[simp] theorem fld_63_0:fieldP Try.prog 63 0 = some (3,0):=by kernel_rfl
@[simp] theorem fld_63_1:fieldP Try.prog 63 1 = some (3,1):=by kernel_rfl
@[simp] theorem cells_66:Try.prog.cellsOf 66 = 2:=by kernel_rfl
@[simp] theorem bytes_66:Try.prog.bytesOf 66 = 16:=by kernel_rfl
@[simp] theorem zero_66:zeroC Try.prog 66 = some [.int .i64 0,.int .i64 0]:=by kernel_rfl
@[simp] theorem zok_66:zOk Try.prog 66 = true:=by kernel_rfl
@[simp] theorem whole_66 (cs:List V):whole Try.prog 66 cs = if 2≤cs.length then some (.agg (cs.take 2)) else none:=by kernel_rfl
@[simp] theorem fld_66_0:fieldP Try.prog 66 0 = some (3,0):=by kernel_rfl
@[simp] theorem fld_66_1:fieldP Try.prog 66 1 = some (3,1):=by kernel_rfl
@[simp] theorem build_66 (ps:List (Nat × V)):evBuild Try.prog 66 ps = if (ps.all fun p=>flatOk p.2) = true then ma1 .agg (fillV (fun i=>[(0,1),(1,1)][i]?) [.int .i64 0,.int .i64 0] ps) else none:=build_of (by kernel_rfl) Try.underlying66 (by kernel_rfl) (by kernel_rfl) ps
@[simp] theorem cells_89:Try.prog.cellsOf 89 = 2:=by kernel_rfl
@[simp] theorem bytes_89:Try.prog.bytesOf 89 = 16:=by kernel_rfl
@[simp] theorem zero_89:zeroC Try.prog 89 = some [.int .i64 0,.int .i64 0]:=by kernel_rfl
@[simp] theorem zok_89:zOk Try.prog 89 = true:=by kernel_rfl
@[simp] theorem whole_89 (cs:List V):whole Try.prog 89 cs = if 2≤cs.length then some (.agg (cs.take 2)) else none:=by kernel_rfl
@[simp] theorem fld_89_0:fieldP Try.prog 89 0 = some (3,0):=by kernel_rfl
@[simp] theorem fld_89_1:fieldP Try.prog 89 1 = some (3,1):=by kernel_rfl
@[simp] theorem build_89 (ps:List (Nat × V)):evBuild Try.prog 89 ps = if (ps.all fun p=>flatOk p.2) = true then ma1 .agg (fillV (fun i=>[(0,1),(1,1)][i]?) [.int .i64 0,.int .i64 0] ps) else none:=build_of (by kernel_rfl) Try.underlying89 (by kernel_rfl) (by kernel_rfl) ps
@[simp] theorem cells_93:Try.prog.cellsOf 93 = 1:=by kernel_rfl
@[simp] theorem zero_93:zeroC Try.prog 93 = some [(.raw (.pointer none))]:=by kernel_rfl
@[simp] theorem whole_93 (cs:List V):whole Try.prog 93 cs = cs[0]?:=by kernel_rfl
@[simp] theorem whole_99 (cs:List V):whole Try.prog 99 cs = cs[0]?:=by kernel_rfl
@[simp] theorem cells_103:Try.prog.cellsOf 103 = 3:=by kernel_rfl
@[simp] theorem zero_103:zeroC Try.prog 103 = some [.int .i64 0,.int .i64 0,.int .i64 0]:=by kernel_rfl
@[simp] theorem whole_103 (cs:List V):whole Try.prog 103 cs = if 3≤cs.length then some (.agg (cs.take 3)) else none:=by kernel_rfl
@[simp] theorem elem_103:elemT Try.prog 103 = (some ((some 3),3)):=by kernel_rfl
@[simp] theorem cells_106:Try.prog.cellsOf 106 = 5:=by kernel_rfl
@[simp] theorem zero_106:zeroC Try.prog 106 = some [.int .i64 0,.int .i64 0,.int .i64 0,.int .i64 0,.int .i64 0]:=by kernel_rfl
@[simp] theorem whole_106 (cs:List V):whole Try.prog 106 cs = if 5≤cs.length then some (.agg (cs.take 5)) else none:=by kernel_rfl
@[simp] theorem fld_106_0:fieldP Try.prog 106 0 = some (3,0):=by kernel_rfl
@[simp] theorem fld_106_1:fieldP Try.prog 106 1 = some (3,1):=by kernel_rfl
@[simp] theorem fld_106_2:fieldP Try.prog 106 2 = some (103,2):=by kernel_rfl
@[simp] theorem build_106 (ps:List (Nat × V)):evBuild Try.prog 106 ps = if (ps.all fun p=>flatOk p.2) = true then ma1 .agg (fillV (fun i=>[(0,1),(1,1),(2,3)][i]?) [.int .i64 0,.int .i64 0,.int .i64 0,.int .i64 0,.int .i64 0] ps) else none:=build_of (by kernel_rfl) Try.underlying106 (by kernel_rfl) (by kernel_rfl) ps
@[simp] theorem cells_108:Try.prog.cellsOf 108 = 4:=by kernel_rfl
@[simp] theorem zero_108:zeroC Try.prog 108 = some [.int .i64 0,.int .i64 0,.int .i64 0,.int .i64 0]:=by kernel_rfl
@[simp] theorem whole_108 (cs:List V):whole Try.prog 108 cs = if 4≤cs.length then some (.agg (cs.take 4)) else none:=by kernel_rfl
@[simp] theorem fld_108_0:fieldP Try.prog 108 0 = some (3,0):=by kernel_rfl
@[simp] theorem fld_108_1:fieldP Try.prog 108 1 = some (103,1):=by kernel_rfl
@[simp] theorem build_108 (ps:List (Nat × V)):evBuild Try.prog 108 ps = if (ps.all fun p=>flatOk p.2) = true then ma1 .agg (fillV (fun i=>[(0,1),(1,3)][i]?) [.int .i64 0,.int .i64 0,.int .i64 0,.int .i64 0] ps) else none:=build_of (by kernel_rfl) Try.underlying108 (by kernel_rfl) (by kernel_rfl) ps
@[simp] theorem cells_111:Try.prog.cellsOf 111 = 1:=by kernel_rfl
@[simp] theorem whole_111 (cs:List V):whole Try.prog 111 cs = cs[0]?:=by kernel_rfl
@[simp] theorem cells_112:Try.prog.cellsOf 112 = 1:=by kernel_rfl
@[simp] theorem whole_112 (cs:List V):whole Try.prog 112 cs = cs[0]?:=by kernel_rfl
@[simp] theorem fld_114_0:fieldP Try.prog 114 0 = some (40,0):=by kernel_rfl
@[simp] theorem fld_114_1:fieldP Try.prog 114 1 = some (23,9):=by kernel_rfl
@[simp] theorem fld_114_2:fieldP Try.prog 114 2 = some (111,10):=by kernel_rfl
@[simp] theorem fld_114_3:fieldP Try.prog 114 3 = some (112,11):=by kernel_rfl
@[simp] theorem build_114 (ps:List (Nat × V)):evBuild Try.prog 114 ps = if (ps.all fun p=>flatOk p.2) = true then ma1 .agg (fillV (fun i=>[(0,9),(9,1),(10,1),(11,1)][i]?) [.int .i64 0,.int .i64 0,.int .i64 0,.int .i64 0,.nil,.nil,.nil,.nil,.nil,.nil,(.raw (.map none)),(.raw (.map none))] ps) else none:=build_of (by kernel_rfl) Try.underlying114 (by kernel_rfl) (by kernel_rfl) ps
@[simp] theorem cells_115:Try.prog.cellsOf 115 = 1:=by kernel_rfl
@[simp] theorem zero_115:zeroC Try.prog 115 = some [(.raw .nilFunc)]:=by kernel_rfl
@[simp] theorem whole_115 (cs:List V):whole Try.prog 115 cs = cs[0]?:=by kernel_rfl
@[simp] theorem whole_116 (cs:List V):whole Try.prog 116 cs = cs[0]?:=by kernel_rfl
@[simp] theorem cells_117:Try.prog.cellsOf 117 = 1:=by kernel_rfl
@[simp] theorem zero_117:zeroC Try.prog 117 = some [(.raw .nilFunc)]:=by kernel_rfl
@[simp] theorem whole_117 (cs:List V):whole Try.prog 117 cs = cs[0]?:=by kernel_rfl
@[simp] theorem whole_126 (cs:List V):whole Try.prog 126 cs = cs[0]?:=by kernel_rfl
@[simp] theorem whole_139 (cs:List V):whole Try.prog 139 cs = cs[0]?:=by kernel_rfl
@[simp] theorem cells_147:Try.prog.cellsOf 147 = 1:=by kernel_rfl
@[simp] theorem zero_147:zeroC Try.prog 147 = some [(.raw .nilFunc)]:=by kernel_rfl
@[simp] theorem whole_147 (cs:List V):whole Try.prog 147 cs = cs[0]?:=by kernel_rfl
end Go.Proofs.Try.Op
