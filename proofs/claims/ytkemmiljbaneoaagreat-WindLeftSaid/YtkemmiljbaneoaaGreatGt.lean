/- What the seat's types come to. No condition. -/
import Derived.Test.YtkemmiljbaneoaaGreatChecked
import Derived.Test.YtkemmiljbaneoaaGreatSx
namespace Go.Proofs.Tryz.Op
open Go Go.Pg
theorem build_of {P:Program} {T:TypeId} {z:List V} {fs:Array Field} {tab:List (Nat × Nat)} (hz:zeroC P T = some z) (hu:P.underlying T = some (.struct fs)) (hi:(fs.all fun f=>(P.info? f.type).isSome) = true) (ht:fs.toList.map (fun f=>(f.offset,P.cellsOf f.type)) = tab) (ps:List (Nat × V)) :
  evBuild P T ps = if (ps.all fun p=>flatOk p.2) = true then ma1 .agg (fillV (fun i=>tab[i]?) z ps) else none:=by
 have e:(fun i:Nat=>(fs[i]?).map fun (f:Field)=>(f.offset,P.cellsOf f.type)) = fun i=>tab[i]?:=by
  funext i
  rw [← ht,List.getElem?_map]
  simp
 unfold evBuild
 rw [hz,hu]
 simp only [hi,and_true,e]
 cases fillV (fun i=>tab[i]?) z ps <;> rfl
@[simp] theorem cells_1:Tryz.prog.cellsOf 1 = 1:=by kernel_rfl
@[simp] theorem bytes_1:Tryz.prog.bytesOf 1 = 8:=by kernel_rfl
@[simp] theorem zero_1:zeroC Tryz.prog 1 = some [(.raw .nilFunc)]:=by kernel_rfl
@[simp] theorem zok_1:zOk Tryz.prog 1 = true:=by kernel_rfl
@[simp] theorem whole_1 (cs:List V):whole Tryz.prog 1 cs = cs[0]?:=by kernel_rfl
@[simp] theorem part_1 (cs:List V) (o:Nat):partV Tryz.prog 1 cs o = cs[o]?:=by kernel_rfl
@[simp] theorem cells_2:Tryz.prog.cellsOf 2 = 1:=by kernel_rfl
@[simp] theorem bytes_2:Tryz.prog.bytesOf 2 = 8:=by kernel_rfl
@[simp] theorem zero_2:zeroC Tryz.prog 2 = some [.int .i64 0]:=by kernel_rfl
@[simp] theorem zok_2:zOk Tryz.prog 2 = true:=by kernel_rfl
@[simp] theorem whole_2 (cs:List V):whole Tryz.prog 2 cs = cs[0]?:=by kernel_rfl
@[simp] theorem part_2 (cs:List V) (o:Nat):partV Tryz.prog 2 cs o = cs[o]?:=by kernel_rfl
@[simp] theorem cells_3:Tryz.prog.cellsOf 3 = 1:=by kernel_rfl
@[simp] theorem bytes_3:Tryz.prog.bytesOf 3 = 8:=by kernel_rfl
@[simp] theorem zero_3:zeroC Tryz.prog 3 = some [.int .i64 0]:=by kernel_rfl
@[simp] theorem zok_3:zOk Tryz.prog 3 = true:=by kernel_rfl
@[simp] theorem whole_3 (cs:List V):whole Tryz.prog 3 cs = cs[0]?:=by kernel_rfl
@[simp] theorem part_3 (cs:List V) (o:Nat):partV Tryz.prog 3 cs o = cs[o]?:=by kernel_rfl
@[simp] theorem cells_4:Tryz.prog.cellsOf 4 = 1:=by kernel_rfl
@[simp] theorem bytes_4:Tryz.prog.bytesOf 4 = 1:=by kernel_rfl
@[simp] theorem zero_4:zeroC Tryz.prog 4 = some [.bool false]:=by kernel_rfl
@[simp] theorem zok_4:zOk Tryz.prog 4 = true:=by kernel_rfl
@[simp] theorem whole_4 (cs:List V):whole Tryz.prog 4 cs = cs[0]?:=by kernel_rfl
@[simp] theorem part_4 (cs:List V) (o:Nat):partV Tryz.prog 4 cs o = cs[o]?:=by kernel_rfl
@[simp] theorem isB_4:boolT Tryz.prog 4 = true:=by kernel_rfl
@[simp] theorem cells_5:Tryz.prog.cellsOf 5 = 1:=by kernel_rfl
@[simp] theorem bytes_5:Tryz.prog.bytesOf 5 = 1:=by kernel_rfl
@[simp] theorem zero_5:zeroC Tryz.prog 5 = some [.int .u8 0]:=by kernel_rfl
@[simp] theorem zok_5:zOk Tryz.prog 5 = true:=by kernel_rfl
@[simp] theorem whole_5 (cs:List V):whole Tryz.prog 5 cs = cs[0]?:=by kernel_rfl
@[simp] theorem part_5 (cs:List V) (o:Nat):partV Tryz.prog 5 cs o = cs[o]?:=by kernel_rfl
@[simp] theorem cells_6:Tryz.prog.cellsOf 6 = 1:=by kernel_rfl
@[simp] theorem bytes_6:Tryz.prog.bytesOf 6 = 1:=by kernel_rfl
@[simp] theorem zero_6:zeroC Tryz.prog 6 = some [.int .u8 0]:=by kernel_rfl
@[simp] theorem zok_6:zOk Tryz.prog 6 = true:=by kernel_rfl
@[simp] theorem whole_6 (cs:List V):whole Tryz.prog 6 cs = cs[0]?:=by kernel_rfl
@[simp] theorem part_6 (cs:List V) (o:Nat):partV Tryz.prog 6 cs o = cs[o]?:=by kernel_rfl
@[simp] theorem cells_7:Tryz.prog.cellsOf 7 = 4:=by kernel_rfl
@[simp] theorem bytes_7:Tryz.prog.bytesOf 7 = 24:=by kernel_rfl
@[simp] theorem zero_7:zeroC Tryz.prog 7 = some [.int .i64 0,.int .i64 0,.bool false,.int .u8 0]:=by kernel_rfl
@[simp] theorem zok_7:zOk Tryz.prog 7 = true:=by kernel_rfl
@[simp] theorem whole_7 (cs:List V):whole Tryz.prog 7 cs = if 4≤cs.length then some (.agg (cs.take 4)) else none:=by kernel_rfl
@[simp] theorem part_7 (cs:List V) (o:Nat):partV Tryz.prog 7 cs o = if o + 4≤cs.length then some (.agg ((cs.drop o).take 4)) else none:=by kernel_rfl
@[simp] theorem fld_7_0:fieldP Tryz.prog 7 0 = some (2,0):=by kernel_rfl
@[simp] theorem fld_7_1:fieldP Tryz.prog 7 1 = some (3,1):=by kernel_rfl
@[simp] theorem fld_7_2:fieldP Tryz.prog 7 2 = some (4,2):=by kernel_rfl
@[simp] theorem fld_7_3:fieldP Tryz.prog 7 3 = some (6,3):=by kernel_rfl
@[simp] theorem build_7 (ps:List (Nat × V)):evBuild Tryz.prog 7 ps = if (ps.all fun p=>flatOk p.2) = true then ma1 .agg (fillV (fun i=>[(0,1),(1,1),(2,1),(3,1)][i]?) [.int .i64 0,.int .i64 0,.bool false,.int .u8 0] ps) else none:=build_of (by kernel_rfl) Tryz.underlying7 (by kernel_rfl) (by kernel_rfl) ps
@[simp] theorem cells_8:Tryz.prog.cellsOf 8 = 4:=by kernel_rfl
@[simp] theorem bytes_8:Tryz.prog.bytesOf 8 = 24:=by kernel_rfl
@[simp] theorem zero_8:zeroC Tryz.prog 8 = some [.int .i64 0,.int .i64 0,.bool false,.int .u8 0]:=by kernel_rfl
@[simp] theorem zok_8:zOk Tryz.prog 8 = true:=by kernel_rfl
@[simp] theorem whole_8 (cs:List V):whole Tryz.prog 8 cs = if 4≤cs.length then some (.agg (cs.take 4)) else none:=by kernel_rfl
@[simp] theorem part_8 (cs:List V) (o:Nat):partV Tryz.prog 8 cs o = if o + 4≤cs.length then some (.agg ((cs.drop o).take 4)) else none:=by kernel_rfl
@[simp] theorem fld_8_0:fieldP Tryz.prog 8 0 = some (2,0):=by kernel_rfl
@[simp] theorem fld_8_1:fieldP Tryz.prog 8 1 = some (3,1):=by kernel_rfl
@[simp] theorem fld_8_2:fieldP Tryz.prog 8 2 = some (4,2):=by kernel_rfl
@[simp] theorem fld_8_3:fieldP Tryz.prog 8 3 = some (6,3):=by kernel_rfl
@[simp] theorem build_8 (ps:List (Nat × V)):evBuild Tryz.prog 8 ps = if (ps.all fun p=>flatOk p.2) = true then ma1 .agg (fillV (fun i=>[(0,1),(1,1),(2,1),(3,1)][i]?) [.int .i64 0,.int .i64 0,.bool false,.int .u8 0] ps) else none:=build_of (by kernel_rfl) Tryz.underlying8 (by kernel_rfl) (by kernel_rfl) ps
@[simp] theorem cells_9:Tryz.prog.cellsOf 9 = 1:=by kernel_rfl
@[simp] theorem bytes_9:Tryz.prog.bytesOf 9 = 16:=by kernel_rfl
@[simp] theorem whole_9 (cs:List V):whole Tryz.prog 9 cs = cs[0]?:=by kernel_rfl
@[simp] theorem part_9 (cs:List V) (o:Nat):partV Tryz.prog 9 cs o = cs[o]?:=by kernel_rfl
@[simp] theorem cells_10:Tryz.prog.cellsOf 10 = 1:=by kernel_rfl
@[simp] theorem bytes_10:Tryz.prog.bytesOf 10 = 16:=by kernel_rfl
@[simp] theorem whole_10 (cs:List V):whole Tryz.prog 10 cs = cs[0]?:=by kernel_rfl
@[simp] theorem part_10 (cs:List V) (o:Nat):partV Tryz.prog 10 cs o = cs[o]?:=by kernel_rfl
@[simp] theorem cells_11:Tryz.prog.cellsOf 11 = 1:=by kernel_rfl
@[simp] theorem bytes_11:Tryz.prog.bytesOf 11 = 16:=by kernel_rfl
@[simp] theorem whole_11 (cs:List V):whole Tryz.prog 11 cs = cs[0]?:=by kernel_rfl
@[simp] theorem part_11 (cs:List V) (o:Nat):partV Tryz.prog 11 cs o = cs[o]?:=by kernel_rfl
@[simp] theorem cells_12:Tryz.prog.cellsOf 12 = 1:=by kernel_rfl
@[simp] theorem bytes_12:Tryz.prog.bytesOf 12 = 8:=by kernel_rfl
@[simp] theorem zero_12:zeroC Tryz.prog 12 = some [.int .u64 0]:=by kernel_rfl
@[simp] theorem zok_12:zOk Tryz.prog 12 = true:=by kernel_rfl
@[simp] theorem whole_12 (cs:List V):whole Tryz.prog 12 cs = cs[0]?:=by kernel_rfl
@[simp] theorem part_12 (cs:List V) (o:Nat):partV Tryz.prog 12 cs o = cs[o]?:=by kernel_rfl
@[simp] theorem cells_13:Tryz.prog.cellsOf 13 = 2:=by kernel_rfl
@[simp] theorem bytes_13:Tryz.prog.bytesOf 13 = 24:=by kernel_rfl
@[simp] theorem whole_13 (cs:List V):whole Tryz.prog 13 cs = if 2≤cs.length then some (.agg (cs.take 2)) else none:=by kernel_rfl
@[simp] theorem part_13 (cs:List V) (o:Nat):partV Tryz.prog 13 cs o = if o + 2≤cs.length then some (.agg ((cs.drop o).take 2)) else none:=by kernel_rfl
@[simp] theorem fld_13_0:fieldP Tryz.prog 13 0 = some (9,0):=by kernel_rfl
@[simp] theorem fld_13_1:fieldP Tryz.prog 13 1 = some (12,1):=by kernel_rfl
@[simp] theorem cells_14:Tryz.prog.cellsOf 14 = 2:=by kernel_rfl
@[simp] theorem bytes_14:Tryz.prog.bytesOf 14 = 24:=by kernel_rfl
@[simp] theorem whole_14 (cs:List V):whole Tryz.prog 14 cs = if 2≤cs.length then some (.agg (cs.take 2)) else none:=by kernel_rfl
@[simp] theorem part_14 (cs:List V) (o:Nat):partV Tryz.prog 14 cs o = if o + 2≤cs.length then some (.agg ((cs.drop o).take 2)) else none:=by kernel_rfl
@[simp] theorem fld_14_0:fieldP Tryz.prog 14 0 = some (9,0):=by kernel_rfl
@[simp] theorem fld_14_1:fieldP Tryz.prog 14 1 = some (12,1):=by kernel_rfl
@[simp] theorem cells_15:Tryz.prog.cellsOf 15 = 1:=by kernel_rfl
@[simp] theorem bytes_15:Tryz.prog.bytesOf 15 = 8:=by kernel_rfl
@[simp] theorem zero_15:zeroC Tryz.prog 15 = some [(.raw (.pointer none))]:=by kernel_rfl
@[simp] theorem zok_15:zOk Tryz.prog 15 = true:=by kernel_rfl
@[simp] theorem whole_15 (cs:List V):whole Tryz.prog 15 cs = cs[0]?:=by kernel_rfl
@[simp] theorem part_15 (cs:List V) (o:Nat):partV Tryz.prog 15 cs o = cs[o]?:=by kernel_rfl
@[simp] theorem cells_16:Tryz.prog.cellsOf 16 = 1:=by kernel_rfl
@[simp] theorem bytes_16:Tryz.prog.bytesOf 16 = 8:=by kernel_rfl
@[simp] theorem zero_16:zeroC Tryz.prog 16 = some [(.raw (.pointer none))]:=by kernel_rfl
@[simp] theorem zok_16:zOk Tryz.prog 16 = true:=by kernel_rfl
@[simp] theorem whole_16 (cs:List V):whole Tryz.prog 16 cs = cs[0]?:=by kernel_rfl
@[simp] theorem part_16 (cs:List V) (o:Nat):partV Tryz.prog 16 cs o = cs[o]?:=by kernel_rfl
@[simp] theorem cells_17:Tryz.prog.cellsOf 17 = 1:=by kernel_rfl
@[simp] theorem bytes_17:Tryz.prog.bytesOf 17 = 8:=by kernel_rfl
@[simp] theorem zero_17:zeroC Tryz.prog 17 = some [(.raw (.pointer none))]:=by kernel_rfl
@[simp] theorem zok_17:zOk Tryz.prog 17 = true:=by kernel_rfl
@[simp] theorem whole_17 (cs:List V):whole Tryz.prog 17 cs = cs[0]?:=by kernel_rfl
@[simp] theorem part_17 (cs:List V) (o:Nat):partV Tryz.prog 17 cs o = cs[o]?:=by kernel_rfl
@[simp] theorem cells_18:Tryz.prog.cellsOf 18 = 1:=by kernel_rfl
@[simp] theorem bytes_18:Tryz.prog.bytesOf 18 = 8:=by kernel_rfl
@[simp] theorem zero_18:zeroC Tryz.prog 18 = some [(.raw (.pointer none))]:=by kernel_rfl
@[simp] theorem zok_18:zOk Tryz.prog 18 = true:=by kernel_rfl
@[simp] theorem whole_18 (cs:List V):whole Tryz.prog 18 cs = if 1≤cs.length then some (.agg (cs.take 1)) else none:=by kernel_rfl
@[simp] theorem part_18 (cs:List V) (o:Nat):partV Tryz.prog 18 cs o = if o + 1≤cs.length then some (.agg ((cs.drop o).take 1)) else none:=by kernel_rfl
@[simp] theorem fld_18_0:fieldP Tryz.prog 18 0 = some (17,0):=by kernel_rfl
@[simp] theorem build_18 (ps:List (Nat × V)):evBuild Tryz.prog 18 ps = if (ps.all fun p=>flatOk p.2) = true then ma1 .agg (fillV (fun i=>[(0,1)][i]?) [(.raw (.pointer none))] ps) else none:=build_of (by kernel_rfl) Tryz.underlying18 (by kernel_rfl) (by kernel_rfl) ps
@[simp] theorem cells_19:Tryz.prog.cellsOf 19 = 1:=by kernel_rfl
@[simp] theorem bytes_19:Tryz.prog.bytesOf 19 = 8:=by kernel_rfl
@[simp] theorem zero_19:zeroC Tryz.prog 19 = some [(.raw (.pointer none))]:=by kernel_rfl
@[simp] theorem zok_19:zOk Tryz.prog 19 = true:=by kernel_rfl
@[simp] theorem whole_19 (cs:List V):whole Tryz.prog 19 cs = if 1≤cs.length then some (.agg (cs.take 1)) else none:=by kernel_rfl
@[simp] theorem part_19 (cs:List V) (o:Nat):partV Tryz.prog 19 cs o = if o + 1≤cs.length then some (.agg ((cs.drop o).take 1)) else none:=by kernel_rfl
@[simp] theorem fld_19_0:fieldP Tryz.prog 19 0 = some (17,0):=by kernel_rfl
@[simp] theorem build_19 (ps:List (Nat × V)):evBuild Tryz.prog 19 ps = if (ps.all fun p=>flatOk p.2) = true then ma1 .agg (fillV (fun i=>[(0,1)][i]?) [(.raw (.pointer none))] ps) else none:=build_of (by kernel_rfl) Tryz.underlying19 (by kernel_rfl) (by kernel_rfl) ps
@[simp] theorem cells_20:Tryz.prog.cellsOf 20 = 1:=by kernel_rfl
@[simp] theorem bytes_20:Tryz.prog.bytesOf 20 = 16:=by kernel_rfl
@[simp] theorem zero_20:zeroC Tryz.prog 20 = some [(.raw .nilIface)]:=by kernel_rfl
@[simp] theorem zok_20:zOk Tryz.prog 20 = true:=by kernel_rfl
@[simp] theorem whole_20 (cs:List V):whole Tryz.prog 20 cs = cs[0]?:=by kernel_rfl
@[simp] theorem part_20 (cs:List V) (o:Nat):partV Tryz.prog 20 cs o = cs[o]?:=by kernel_rfl
@[simp] theorem cells_21:Tryz.prog.cellsOf 21 = 1:=by kernel_rfl
@[simp] theorem bytes_21:Tryz.prog.bytesOf 21 = 4:=by kernel_rfl
@[simp] theorem zero_21:zeroC Tryz.prog 21 = some [.int .i32 0]:=by kernel_rfl
@[simp] theorem zok_21:zOk Tryz.prog 21 = true:=by kernel_rfl
@[simp] theorem whole_21 (cs:List V):whole Tryz.prog 21 cs = cs[0]?:=by kernel_rfl
@[simp] theorem part_21 (cs:List V) (o:Nat):partV Tryz.prog 21 cs o = cs[o]?:=by kernel_rfl
@[simp] theorem cells_22:Tryz.prog.cellsOf 22 = 1:=by kernel_rfl
@[simp] theorem bytes_22:Tryz.prog.bytesOf 22 = 24:=by kernel_rfl
@[simp] theorem zero_22:zeroC Tryz.prog 22 = some [.nil]:=by kernel_rfl
@[simp] theorem zok_22:zOk Tryz.prog 22 = true:=by kernel_rfl
@[simp] theorem whole_22 (cs:List V):whole Tryz.prog 22 cs = cs[0]?:=by kernel_rfl
@[simp] theorem part_22 (cs:List V) (o:Nat):partV Tryz.prog 22 cs o = cs[o]?:=by kernel_rfl
@[simp] theorem elem_22:elemT Tryz.prog 22 = (some (none,3)):=by kernel_rfl
@[simp] theorem isS_22:sliceT Tryz.prog 22 = true:=by kernel_rfl
@[simp] theorem cells_23:Tryz.prog.cellsOf 23 = 1:=by kernel_rfl
@[simp] theorem bytes_23:Tryz.prog.bytesOf 23 = 24:=by kernel_rfl
@[simp] theorem zero_23:zeroC Tryz.prog 23 = some [.nil]:=by kernel_rfl
@[simp] theorem zok_23:zOk Tryz.prog 23 = true:=by kernel_rfl
@[simp] theorem whole_23 (cs:List V):whole Tryz.prog 23 cs = cs[0]?:=by kernel_rfl
@[simp] theorem part_23 (cs:List V) (o:Nat):partV Tryz.prog 23 cs o = cs[o]?:=by kernel_rfl
@[simp] theorem elem_23:elemT Tryz.prog 23 = (some (none,22)):=by kernel_rfl
@[simp] theorem isS_23:sliceT Tryz.prog 23 = true:=by kernel_rfl
@[simp] theorem cells_24:Tryz.prog.cellsOf 24 = 1:=by kernel_rfl
@[simp] theorem bytes_24:Tryz.prog.bytesOf 24 = 24:=by kernel_rfl
@[simp] theorem zero_24:zeroC Tryz.prog 24 = some [.nil]:=by kernel_rfl
@[simp] theorem zok_24:zOk Tryz.prog 24 = true:=by kernel_rfl
@[simp] theorem whole_24 (cs:List V):whole Tryz.prog 24 cs = cs[0]?:=by kernel_rfl
@[simp] theorem part_24 (cs:List V) (o:Nat):partV Tryz.prog 24 cs o = cs[o]?:=by kernel_rfl
@[simp] theorem elem_24:elemT Tryz.prog 24 = (some (none,50)):=by kernel_rfl
@[simp] theorem isS_24:sliceT Tryz.prog 24 = true:=by kernel_rfl
@[simp] theorem cells_25:Tryz.prog.cellsOf 25 = 1:=by kernel_rfl
@[simp] theorem bytes_25:Tryz.prog.bytesOf 25 = 24:=by kernel_rfl
@[simp] theorem zero_25:zeroC Tryz.prog 25 = some [.nil]:=by kernel_rfl
@[simp] theorem zok_25:zOk Tryz.prog 25 = true:=by kernel_rfl
@[simp] theorem whole_25 (cs:List V):whole Tryz.prog 25 cs = cs[0]?:=by kernel_rfl
@[simp] theorem part_25 (cs:List V) (o:Nat):partV Tryz.prog 25 cs o = cs[o]?:=by kernel_rfl
@[simp] theorem elem_25:elemT Tryz.prog 25 = (some (none,101)):=by kernel_rfl
@[simp] theorem isS_25:sliceT Tryz.prog 25 = true:=by kernel_rfl
@[simp] theorem cells_26:Tryz.prog.cellsOf 26 = 9:=by kernel_rfl
@[simp] theorem bytes_26:Tryz.prog.bytesOf 26 = 152:=by kernel_rfl
@[simp] theorem zero_26:zeroC Tryz.prog 26 = some [.int .i64 0,.int .i64 0,.int .i64 0,.int .i64 0,.nil,.nil,.nil,.nil,.nil]:=by kernel_rfl
@[simp] theorem zok_26:zOk Tryz.prog 26 = true:=by kernel_rfl
@[simp] theorem whole_26 (cs:List V):whole Tryz.prog 26 cs = if 9≤cs.length then some (.agg (cs.take 9)) else none:=by kernel_rfl
@[simp] theorem part_26 (cs:List V) (o:Nat):partV Tryz.prog 26 cs o = if o + 9≤cs.length then some (.agg ((cs.drop o).take 9)) else none:=by kernel_rfl
@[simp] theorem fld_26_0:fieldP Tryz.prog 26 0 = some (3,0):=by kernel_rfl
@[simp] theorem fld_26_1:fieldP Tryz.prog 26 1 = some (3,1):=by kernel_rfl
@[simp] theorem fld_26_2:fieldP Tryz.prog 26 2 = some (3,2):=by kernel_rfl
@[simp] theorem fld_26_3:fieldP Tryz.prog 26 3 = some (3,3):=by kernel_rfl
@[simp] theorem fld_26_4:fieldP Tryz.prog 26 4 = some (22,4):=by kernel_rfl
@[simp] theorem fld_26_5:fieldP Tryz.prog 26 5 = some (22,5):=by kernel_rfl
@[simp] theorem fld_26_6:fieldP Tryz.prog 26 6 = some (23,6):=by kernel_rfl
@[simp] theorem fld_26_7:fieldP Tryz.prog 26 7 = some (24,7):=by kernel_rfl
@[simp] theorem fld_26_8:fieldP Tryz.prog 26 8 = some (25,8):=by kernel_rfl
@[simp] theorem build_26 (ps:List (Nat × V)):evBuild Tryz.prog 26 ps = if (ps.all fun p=>flatOk p.2) = true then ma1 .agg (fillV (fun i=>[(0,1),(1,1),(2,1),(3,1),(4,1),(5,1),(6,1),(7,1),(8,1)][i]?) [.int .i64 0,.int .i64 0,.int .i64 0,.int .i64 0,.nil,.nil,.nil,.nil,.nil] ps) else none:=build_of (by kernel_rfl) Tryz.underlying26 (by kernel_rfl) (by kernel_rfl) ps
@[simp] theorem cells_27:Tryz.prog.cellsOf 27 = 9:=by kernel_rfl
@[simp] theorem bytes_27:Tryz.prog.bytesOf 27 = 152:=by kernel_rfl
@[simp] theorem zero_27:zeroC Tryz.prog 27 = some [.int .i64 0,.int .i64 0,.int .i64 0,.int .i64 0,.nil,.nil,.nil,.nil,.nil]:=by kernel_rfl
@[simp] theorem zok_27:zOk Tryz.prog 27 = true:=by kernel_rfl
@[simp] theorem whole_27 (cs:List V):whole Tryz.prog 27 cs = if 9≤cs.length then some (.agg (cs.take 9)) else none:=by kernel_rfl
@[simp] theorem part_27 (cs:List V) (o:Nat):partV Tryz.prog 27 cs o = if o + 9≤cs.length then some (.agg ((cs.drop o).take 9)) else none:=by kernel_rfl
@[simp] theorem fld_27_0:fieldP Tryz.prog 27 0 = some (3,0):=by kernel_rfl
@[simp] theorem fld_27_1:fieldP Tryz.prog 27 1 = some (3,1):=by kernel_rfl
@[simp] theorem fld_27_2:fieldP Tryz.prog 27 2 = some (3,2):=by kernel_rfl
@[simp] theorem fld_27_3:fieldP Tryz.prog 27 3 = some (3,3):=by kernel_rfl
@[simp] theorem fld_27_4:fieldP Tryz.prog 27 4 = some (22,4):=by kernel_rfl
@[simp] theorem fld_27_5:fieldP Tryz.prog 27 5 = some (22,5):=by kernel_rfl
@[simp] theorem fld_27_6:fieldP Tryz.prog 27 6 = some (23,6):=by kernel_rfl
@[simp] theorem fld_27_7:fieldP Tryz.prog 27 7 = some (24,7):=by kernel_rfl
@[simp] theorem fld_27_8:fieldP Tryz.prog 27 8 = some (25,8):=by kernel_rfl
@[simp] theorem build_27 (ps:List (Nat × V)):evBuild Tryz.prog 27 ps = if (ps.all fun p=>flatOk p.2) = true then ma1 .agg (fillV (fun i=>[(0,1),(1,1),(2,1),(3,1),(4,1),(5,1),(6,1),(7,1),(8,1)][i]?) [.int .i64 0,.int .i64 0,.int .i64 0,.int .i64 0,.nil,.nil,.nil,.nil,.nil] ps) else none:=build_of (by kernel_rfl) Tryz.underlying27 (by kernel_rfl) (by kernel_rfl) ps
@[simp] theorem cells_28:Tryz.prog.cellsOf 28 = 1:=by kernel_rfl
@[simp] theorem bytes_28:Tryz.prog.bytesOf 28 = 8:=by kernel_rfl
@[simp] theorem zero_28:zeroC Tryz.prog 28 = some [(.raw .nilFunc)]:=by kernel_rfl
@[simp] theorem zok_28:zOk Tryz.prog 28 = true:=by kernel_rfl
@[simp] theorem whole_28 (cs:List V):whole Tryz.prog 28 cs = cs[0]?:=by kernel_rfl
@[simp] theorem part_28 (cs:List V) (o:Nat):partV Tryz.prog 28 cs o = cs[o]?:=by kernel_rfl
@[simp] theorem cells_29:Tryz.prog.cellsOf 29 = 1:=by kernel_rfl
@[simp] theorem bytes_29:Tryz.prog.bytesOf 29 = 8:=by kernel_rfl
@[simp] theorem zero_29:zeroC Tryz.prog 29 = some [(.raw .nilFunc)]:=by kernel_rfl
@[simp] theorem zok_29:zOk Tryz.prog 29 = true:=by kernel_rfl
@[simp] theorem whole_29 (cs:List V):whole Tryz.prog 29 cs = cs[0]?:=by kernel_rfl
@[simp] theorem part_29 (cs:List V) (o:Nat):partV Tryz.prog 29 cs o = cs[o]?:=by kernel_rfl
@[simp] theorem cells_30:Tryz.prog.cellsOf 30 = 1:=by kernel_rfl
@[simp] theorem bytes_30:Tryz.prog.bytesOf 30 = 8:=by kernel_rfl
@[simp] theorem zero_30:zeroC Tryz.prog 30 = some [(.raw .nilFunc)]:=by kernel_rfl
@[simp] theorem zok_30:zOk Tryz.prog 30 = true:=by kernel_rfl
@[simp] theorem whole_30 (cs:List V):whole Tryz.prog 30 cs = cs[0]?:=by kernel_rfl
@[simp] theorem part_30 (cs:List V) (o:Nat):partV Tryz.prog 30 cs o = cs[o]?:=by kernel_rfl
@[simp] theorem cells_31:Tryz.prog.cellsOf 31 = 1:=by kernel_rfl
@[simp] theorem bytes_31:Tryz.prog.bytesOf 31 = 8:=by kernel_rfl
@[simp] theorem zero_31:zeroC Tryz.prog 31 = some [.int .i64 0]:=by kernel_rfl
@[simp] theorem zok_31:zOk Tryz.prog 31 = true:=by kernel_rfl
@[simp] theorem whole_31 (cs:List V):whole Tryz.prog 31 cs = cs[0]?:=by kernel_rfl
@[simp] theorem part_31 (cs:List V) (o:Nat):partV Tryz.prog 31 cs o = cs[o]?:=by kernel_rfl
@[simp] theorem cells_33:Tryz.prog.cellsOf 33 = 1:=by kernel_rfl
@[simp] theorem bytes_33:Tryz.prog.bytesOf 33 = 8:=by kernel_rfl
@[simp] theorem zero_33:zeroC Tryz.prog 33 = some [(.raw .nilFunc)]:=by kernel_rfl
@[simp] theorem zok_33:zOk Tryz.prog 33 = true:=by kernel_rfl
@[simp] theorem whole_33 (cs:List V):whole Tryz.prog 33 cs = cs[0]?:=by kernel_rfl
@[simp] theorem part_33 (cs:List V) (o:Nat):partV Tryz.prog 33 cs o = cs[o]?:=by kernel_rfl
@[simp] theorem cells_34:Tryz.prog.cellsOf 34 = 1:=by kernel_rfl
@[simp] theorem bytes_34:Tryz.prog.bytesOf 34 = 24:=by kernel_rfl
@[simp] theorem zero_34:zeroC Tryz.prog 34 = some [.nil]:=by kernel_rfl
@[simp] theorem zok_34:zOk Tryz.prog 34 = true:=by kernel_rfl
@[simp] theorem whole_34 (cs:List V):whole Tryz.prog 34 cs = cs[0]?:=by kernel_rfl
@[simp] theorem part_34 (cs:List V) (o:Nat):partV Tryz.prog 34 cs o = cs[o]?:=by kernel_rfl
@[simp] theorem elem_34:elemT Tryz.prog 34 = (some (none,65)):=by kernel_rfl
@[simp] theorem isS_34:sliceT Tryz.prog 34 = true:=by kernel_rfl
@[simp] theorem cells_35:Tryz.prog.cellsOf 35 = 1:=by kernel_rfl
@[simp] theorem bytes_35:Tryz.prog.bytesOf 35 = 24:=by kernel_rfl
@[simp] theorem zero_35:zeroC Tryz.prog 35 = some [.nil]:=by kernel_rfl
@[simp] theorem zok_35:zOk Tryz.prog 35 = true:=by kernel_rfl
@[simp] theorem whole_35 (cs:List V):whole Tryz.prog 35 cs = cs[0]?:=by kernel_rfl
@[simp] theorem part_35 (cs:List V) (o:Nat):partV Tryz.prog 35 cs o = cs[o]?:=by kernel_rfl
@[simp] theorem elem_35:elemT Tryz.prog 35 = (some (none,126)):=by kernel_rfl
@[simp] theorem isS_35:sliceT Tryz.prog 35 = true:=by kernel_rfl
@[simp] theorem cells_36:Tryz.prog.cellsOf 36 = 9:=by kernel_rfl
@[simp] theorem bytes_36:Tryz.prog.bytesOf 36 = 152:=by kernel_rfl
@[simp] theorem zero_36:zeroC Tryz.prog 36 = some [.int .i64 0,.int .i64 0,.int .i64 0,.int .i64 0,.nil,.nil,.nil,.nil,.nil]:=by kernel_rfl
@[simp] theorem zok_36:zOk Tryz.prog 36 = true:=by kernel_rfl
@[simp] theorem whole_36 (cs:List V):whole Tryz.prog 36 cs = if 9≤cs.length then some (.agg (cs.take 9)) else none:=by kernel_rfl
@[simp] theorem part_36 (cs:List V) (o:Nat):partV Tryz.prog 36 cs o = if o + 9≤cs.length then some (.agg ((cs.drop o).take 9)) else none:=by kernel_rfl
@[simp] theorem fld_36_0:fieldP Tryz.prog 36 0 = some (3,0):=by kernel_rfl
@[simp] theorem fld_36_1:fieldP Tryz.prog 36 1 = some (3,1):=by kernel_rfl
@[simp] theorem fld_36_2:fieldP Tryz.prog 36 2 = some (3,2):=by kernel_rfl
@[simp] theorem fld_36_3:fieldP Tryz.prog 36 3 = some (3,3):=by kernel_rfl
@[simp] theorem fld_36_4:fieldP Tryz.prog 36 4 = some (22,4):=by kernel_rfl
@[simp] theorem fld_36_5:fieldP Tryz.prog 36 5 = some (22,5):=by kernel_rfl
@[simp] theorem fld_36_6:fieldP Tryz.prog 36 6 = some (23,6):=by kernel_rfl
@[simp] theorem fld_36_7:fieldP Tryz.prog 36 7 = some (34,7):=by kernel_rfl
@[simp] theorem fld_36_8:fieldP Tryz.prog 36 8 = some (35,8):=by kernel_rfl
@[simp] theorem build_36 (ps:List (Nat × V)):evBuild Tryz.prog 36 ps = if (ps.all fun p=>flatOk p.2) = true then ma1 .agg (fillV (fun i=>[(0,1),(1,1),(2,1),(3,1),(4,1),(5,1),(6,1),(7,1),(8,1)][i]?) [.int .i64 0,.int .i64 0,.int .i64 0,.int .i64 0,.nil,.nil,.nil,.nil,.nil] ps) else none:=build_of (by kernel_rfl) Tryz.underlying36 (by kernel_rfl) (by kernel_rfl) ps
@[simp] theorem cells_37:Tryz.prog.cellsOf 37 = 9:=by kernel_rfl
@[simp] theorem bytes_37:Tryz.prog.bytesOf 37 = 152:=by kernel_rfl
@[simp] theorem zero_37:zeroC Tryz.prog 37 = some [.int .i64 0,.int .i64 0,.int .i64 0,.int .i64 0,.nil,.nil,.nil,.nil,.nil]:=by kernel_rfl
@[simp] theorem zok_37:zOk Tryz.prog 37 = true:=by kernel_rfl
@[simp] theorem whole_37 (cs:List V):whole Tryz.prog 37 cs = if 9≤cs.length then some (.agg (cs.take 9)) else none:=by kernel_rfl
@[simp] theorem part_37 (cs:List V) (o:Nat):partV Tryz.prog 37 cs o = if o + 9≤cs.length then some (.agg ((cs.drop o).take 9)) else none:=by kernel_rfl
@[simp] theorem fld_37_0:fieldP Tryz.prog 37 0 = some (3,0):=by kernel_rfl
@[simp] theorem fld_37_1:fieldP Tryz.prog 37 1 = some (3,1):=by kernel_rfl
@[simp] theorem fld_37_2:fieldP Tryz.prog 37 2 = some (3,2):=by kernel_rfl
@[simp] theorem fld_37_3:fieldP Tryz.prog 37 3 = some (3,3):=by kernel_rfl
@[simp] theorem fld_37_4:fieldP Tryz.prog 37 4 = some (22,4):=by kernel_rfl
@[simp] theorem fld_37_5:fieldP Tryz.prog 37 5 = some (22,5):=by kernel_rfl
@[simp] theorem fld_37_6:fieldP Tryz.prog 37 6 = some (23,6):=by kernel_rfl
@[simp] theorem fld_37_7:fieldP Tryz.prog 37 7 = some (34,7):=by kernel_rfl
@[simp] theorem fld_37_8:fieldP Tryz.prog 37 8 = some (35,8):=by kernel_rfl
@[simp] theorem build_37 (ps:List (Nat × V)):evBuild Tryz.prog 37 ps = if (ps.all fun p=>flatOk p.2) = true then ma1 .agg (fillV (fun i=>[(0,1),(1,1),(2,1),(3,1),(4,1),(5,1),(6,1),(7,1),(8,1)][i]?) [.int .i64 0,.int .i64 0,.int .i64 0,.int .i64 0,.nil,.nil,.nil,.nil,.nil] ps) else none:=build_of (by kernel_rfl) Tryz.underlying37 (by kernel_rfl) (by kernel_rfl) ps
@[simp] theorem cells_38:Tryz.prog.cellsOf 38 = 1:=by kernel_rfl
@[simp] theorem bytes_38:Tryz.prog.bytesOf 38 = 8:=by kernel_rfl
@[simp] theorem zero_38:zeroC Tryz.prog 38 = some [(.raw .nilFunc)]:=by kernel_rfl
@[simp] theorem zok_38:zOk Tryz.prog 38 = true:=by kernel_rfl
@[simp] theorem whole_38 (cs:List V):whole Tryz.prog 38 cs = cs[0]?:=by kernel_rfl
@[simp] theorem part_38 (cs:List V) (o:Nat):partV Tryz.prog 38 cs o = cs[o]?:=by kernel_rfl
@[simp] theorem cells_39:Tryz.prog.cellsOf 39 = 1:=by kernel_rfl
@[simp] theorem bytes_39:Tryz.prog.bytesOf 39 = 8:=by kernel_rfl
@[simp] theorem zero_39:zeroC Tryz.prog 39 = some [(.raw .nilFunc)]:=by kernel_rfl
@[simp] theorem zok_39:zOk Tryz.prog 39 = true:=by kernel_rfl
@[simp] theorem whole_39 (cs:List V):whole Tryz.prog 39 cs = cs[0]?:=by kernel_rfl
@[simp] theorem part_39 (cs:List V) (o:Nat):partV Tryz.prog 39 cs o = cs[o]?:=by kernel_rfl
@[simp] theorem cells_40:Tryz.prog.cellsOf 40 = 1:=by kernel_rfl
@[simp] theorem bytes_40:Tryz.prog.bytesOf 40 = 24:=by kernel_rfl
@[simp] theorem zero_40:zeroC Tryz.prog 40 = some [.nil]:=by kernel_rfl
@[simp] theorem zok_40:zOk Tryz.prog 40 = true:=by kernel_rfl
@[simp] theorem whole_40 (cs:List V):whole Tryz.prog 40 cs = cs[0]?:=by kernel_rfl
@[simp] theorem part_40 (cs:List V) (o:Nat):partV Tryz.prog 40 cs o = cs[o]?:=by kernel_rfl
@[simp] theorem elem_40:elemT Tryz.prog 40 = (some (none,48)):=by kernel_rfl
@[simp] theorem isS_40:sliceT Tryz.prog 40 = true:=by kernel_rfl
@[simp] theorem cells_42:Tryz.prog.cellsOf 42 = 1:=by kernel_rfl
@[simp] theorem bytes_42:Tryz.prog.bytesOf 42 = 8:=by kernel_rfl
@[simp] theorem zero_42:zeroC Tryz.prog 42 = some [(.raw .nilFunc)]:=by kernel_rfl
@[simp] theorem zok_42:zOk Tryz.prog 42 = true:=by kernel_rfl
@[simp] theorem whole_42 (cs:List V):whole Tryz.prog 42 cs = cs[0]?:=by kernel_rfl
@[simp] theorem part_42 (cs:List V) (o:Nat):partV Tryz.prog 42 cs o = cs[o]?:=by kernel_rfl
@[simp] theorem cells_44:Tryz.prog.cellsOf 44 = 1:=by kernel_rfl
@[simp] theorem bytes_44:Tryz.prog.bytesOf 44 = 8:=by kernel_rfl
@[simp] theorem zero_44:zeroC Tryz.prog 44 = some [(.raw .nilFunc)]:=by kernel_rfl
@[simp] theorem zok_44:zOk Tryz.prog 44 = true:=by kernel_rfl
@[simp] theorem whole_44 (cs:List V):whole Tryz.prog 44 cs = cs[0]?:=by kernel_rfl
@[simp] theorem part_44 (cs:List V) (o:Nat):partV Tryz.prog 44 cs o = cs[o]?:=by kernel_rfl
@[simp] theorem cells_45:Tryz.prog.cellsOf 45 = 1:=by kernel_rfl
@[simp] theorem bytes_45:Tryz.prog.bytesOf 45 = 8:=by kernel_rfl
@[simp] theorem zero_45:zeroC Tryz.prog 45 = some [(.raw .nilFunc)]:=by kernel_rfl
@[simp] theorem zok_45:zOk Tryz.prog 45 = true:=by kernel_rfl
@[simp] theorem whole_45 (cs:List V):whole Tryz.prog 45 cs = cs[0]?:=by kernel_rfl
@[simp] theorem part_45 (cs:List V) (o:Nat):partV Tryz.prog 45 cs o = cs[o]?:=by kernel_rfl
@[simp] theorem cells_46:Tryz.prog.cellsOf 46 = 1:=by kernel_rfl
@[simp] theorem bytes_46:Tryz.prog.bytesOf 46 = 8:=by kernel_rfl
@[simp] theorem zero_46:zeroC Tryz.prog 46 = some [(.raw .nilFunc)]:=by kernel_rfl
@[simp] theorem zok_46:zOk Tryz.prog 46 = true:=by kernel_rfl
@[simp] theorem whole_46 (cs:List V):whole Tryz.prog 46 cs = cs[0]?:=by kernel_rfl
@[simp] theorem part_46 (cs:List V) (o:Nat):partV Tryz.prog 46 cs o = cs[o]?:=by kernel_rfl
@[simp] theorem cells_47:Tryz.prog.cellsOf 47 = 1:=by kernel_rfl
@[simp] theorem bytes_47:Tryz.prog.bytesOf 47 = 8:=by kernel_rfl
@[simp] theorem zero_47:zeroC Tryz.prog 47 = some [(.raw .nilFunc)]:=by kernel_rfl
@[simp] theorem zok_47:zOk Tryz.prog 47 = true:=by kernel_rfl
@[simp] theorem whole_47 (cs:List V):whole Tryz.prog 47 cs = cs[0]?:=by kernel_rfl
@[simp] theorem part_47 (cs:List V) (o:Nat):partV Tryz.prog 47 cs o = cs[o]?:=by kernel_rfl
@[simp] theorem cells_48:Tryz.prog.cellsOf 48 = 1:=by kernel_rfl
@[simp] theorem bytes_48:Tryz.prog.bytesOf 48 = 24:=by kernel_rfl
@[simp] theorem zero_48:zeroC Tryz.prog 48 = some [.nil]:=by kernel_rfl
@[simp] theorem zok_48:zOk Tryz.prog 48 = true:=by kernel_rfl
@[simp] theorem whole_48 (cs:List V):whole Tryz.prog 48 cs = cs[0]?:=by kernel_rfl
@[simp] theorem part_48 (cs:List V) (o:Nat):partV Tryz.prog 48 cs o = cs[o]?:=by kernel_rfl
@[simp] theorem elem_48:elemT Tryz.prog 48 = (some (none,57)):=by kernel_rfl
@[simp] theorem isS_48:sliceT Tryz.prog 48 = true:=by kernel_rfl
@[simp] theorem cells_49:Tryz.prog.cellsOf 49 = 2:=by kernel_rfl
@[simp] theorem bytes_49:Tryz.prog.bytesOf 49 = 16:=by kernel_rfl
@[simp] theorem zero_49:zeroC Tryz.prog 49 = some [.int .i64 0,.int .i64 0]:=by kernel_rfl
@[simp] theorem zok_49:zOk Tryz.prog 49 = true:=by kernel_rfl
@[simp] theorem whole_49 (cs:List V):whole Tryz.prog 49 cs = if 2≤cs.length then some (.agg (cs.take 2)) else none:=by kernel_rfl
@[simp] theorem part_49 (cs:List V) (o:Nat):partV Tryz.prog 49 cs o = if o + 2≤cs.length then some (.agg ((cs.drop o).take 2)) else none:=by kernel_rfl
@[simp] theorem fld_49_0:fieldP Tryz.prog 49 0 = some (3,0):=by kernel_rfl
@[simp] theorem fld_49_1:fieldP Tryz.prog 49 1 = some (3,1):=by kernel_rfl
@[simp] theorem build_49 (ps:List (Nat × V)):evBuild Tryz.prog 49 ps = if (ps.all fun p=>flatOk p.2) = true then ma1 .agg (fillV (fun i=>[(0,1),(1,1)][i]?) [.int .i64 0,.int .i64 0] ps) else none:=build_of (by kernel_rfl) Tryz.underlying49 (by kernel_rfl) (by kernel_rfl) ps
@[simp] theorem cells_50:Tryz.prog.cellsOf 50 = 2:=by kernel_rfl
@[simp] theorem bytes_50:Tryz.prog.bytesOf 50 = 16:=by kernel_rfl
@[simp] theorem zero_50:zeroC Tryz.prog 50 = some [.int .i64 0,.int .i64 0]:=by kernel_rfl
@[simp] theorem zok_50:zOk Tryz.prog 50 = true:=by kernel_rfl
@[simp] theorem whole_50 (cs:List V):whole Tryz.prog 50 cs = if 2≤cs.length then some (.agg (cs.take 2)) else none:=by kernel_rfl
@[simp] theorem part_50 (cs:List V) (o:Nat):partV Tryz.prog 50 cs o = if o + 2≤cs.length then some (.agg ((cs.drop o).take 2)) else none:=by kernel_rfl
@[simp] theorem fld_50_0:fieldP Tryz.prog 50 0 = some (3,0):=by kernel_rfl
@[simp] theorem fld_50_1:fieldP Tryz.prog 50 1 = some (3,1):=by kernel_rfl
@[simp] theorem build_50 (ps:List (Nat × V)):evBuild Tryz.prog 50 ps = if (ps.all fun p=>flatOk p.2) = true then ma1 .agg (fillV (fun i=>[(0,1),(1,1)][i]?) [.int .i64 0,.int .i64 0] ps) else none:=build_of (by kernel_rfl) Tryz.underlying50 (by kernel_rfl) (by kernel_rfl) ps
@[simp] theorem cells_51:Tryz.prog.cellsOf 51 = 2:=by kernel_rfl
@[simp] theorem bytes_51:Tryz.prog.bytesOf 51 = 16:=by kernel_rfl
@[simp] theorem zero_51:zeroC Tryz.prog 51 = some [.int .i64 0,.int .i64 0]:=by kernel_rfl
@[simp] theorem zok_51:zOk Tryz.prog 51 = true:=by kernel_rfl
@[simp] theorem whole_51 (cs:List V):whole Tryz.prog 51 cs = if 2≤cs.length then some (.agg (cs.take 2)) else none:=by kernel_rfl
@[simp] theorem part_51 (cs:List V) (o:Nat):partV Tryz.prog 51 cs o = if o + 2≤cs.length then some (.agg ((cs.drop o).take 2)) else none:=by kernel_rfl
@[simp] theorem fld_51_0:fieldP Tryz.prog 51 0 = some (3,0):=by kernel_rfl
@[simp] theorem fld_51_1:fieldP Tryz.prog 51 1 = some (3,1):=by kernel_rfl
@[simp] theorem build_51 (ps:List (Nat × V)):evBuild Tryz.prog 51 ps = if (ps.all fun p=>flatOk p.2) = true then ma1 .agg (fillV (fun i=>[(0,1),(1,1)][i]?) [.int .i64 0,.int .i64 0] ps) else none:=build_of (by kernel_rfl) Tryz.underlying51 (by kernel_rfl) (by kernel_rfl) ps
@[simp] theorem cells_52:Tryz.prog.cellsOf 52 = 2:=by kernel_rfl
@[simp] theorem bytes_52:Tryz.prog.bytesOf 52 = 16:=by kernel_rfl
@[simp] theorem zero_52:zeroC Tryz.prog 52 = some [.int .i64 0,.int .i64 0]:=by kernel_rfl
@[simp] theorem zok_52:zOk Tryz.prog 52 = true:=by kernel_rfl
@[simp] theorem whole_52 (cs:List V):whole Tryz.prog 52 cs = if 2≤cs.length then some (.agg (cs.take 2)) else none:=by kernel_rfl
@[simp] theorem part_52 (cs:List V) (o:Nat):partV Tryz.prog 52 cs o = if o + 2≤cs.length then some (.agg ((cs.drop o).take 2)) else none:=by kernel_rfl
@[simp] theorem fld_52_0:fieldP Tryz.prog 52 0 = some (3,0):=by kernel_rfl
@[simp] theorem fld_52_1:fieldP Tryz.prog 52 1 = some (3,1):=by kernel_rfl
@[simp] theorem build_52 (ps:List (Nat × V)):evBuild Tryz.prog 52 ps = if (ps.all fun p=>flatOk p.2) = true then ma1 .agg (fillV (fun i=>[(0,1),(1,1)][i]?) [.int .i64 0,.int .i64 0] ps) else none:=build_of (by kernel_rfl) Tryz.underlying52 (by kernel_rfl) (by kernel_rfl) ps
@[simp] theorem cells_54:Tryz.prog.cellsOf 54 = 1:=by kernel_rfl
@[simp] theorem bytes_54:Tryz.prog.bytesOf 54 = 8:=by kernel_rfl
@[simp] theorem zero_54:zeroC Tryz.prog 54 = some [(.raw .nilFunc)]:=by kernel_rfl
@[simp] theorem zok_54:zOk Tryz.prog 54 = true:=by kernel_rfl
@[simp] theorem whole_54 (cs:List V):whole Tryz.prog 54 cs = cs[0]?:=by kernel_rfl
@[simp] theorem part_54 (cs:List V) (o:Nat):partV Tryz.prog 54 cs o = cs[o]?:=by kernel_rfl
@[simp] theorem cells_55:Tryz.prog.cellsOf 55 = 2:=by kernel_rfl
@[simp] theorem bytes_55:Tryz.prog.bytesOf 55 = 16:=by kernel_rfl
@[simp] theorem zero_55:zeroC Tryz.prog 55 = some [.int .i64 0,.int .i64 0]:=by kernel_rfl
@[simp] theorem zok_55:zOk Tryz.prog 55 = true:=by kernel_rfl
@[simp] theorem whole_55 (cs:List V):whole Tryz.prog 55 cs = if 2≤cs.length then some (.agg (cs.take 2)) else none:=by kernel_rfl
@[simp] theorem part_55 (cs:List V) (o:Nat):partV Tryz.prog 55 cs o = if o + 2≤cs.length then some (.agg ((cs.drop o).take 2)) else none:=by kernel_rfl
@[simp] theorem fld_55_0:fieldP Tryz.prog 55 0 = some (3,0):=by kernel_rfl
@[simp] theorem fld_55_1:fieldP Tryz.prog 55 1 = some (3,1):=by kernel_rfl
@[simp] theorem build_55 (ps:List (Nat × V)):evBuild Tryz.prog 55 ps = if (ps.all fun p=>flatOk p.2) = true then ma1 .agg (fillV (fun i=>[(0,1),(1,1)][i]?) [.int .i64 0,.int .i64 0] ps) else none:=build_of (by kernel_rfl) Tryz.underlying55 (by kernel_rfl) (by kernel_rfl) ps
@[simp] theorem cells_56:Tryz.prog.cellsOf 56 = 5:=by kernel_rfl
@[simp] theorem bytes_56:Tryz.prog.bytesOf 56 = 40:=by kernel_rfl
@[simp] theorem zero_56:zeroC Tryz.prog 56 = some [.int .i64 0,.int .i64 0,.int .i64 0,.int .i64 0,.int .i64 0]:=by kernel_rfl
@[simp] theorem zok_56:zOk Tryz.prog 56 = true:=by kernel_rfl
@[simp] theorem whole_56 (cs:List V):whole Tryz.prog 56 cs = if 5≤cs.length then some (.agg (cs.take 5)) else none:=by kernel_rfl
@[simp] theorem part_56 (cs:List V) (o:Nat):partV Tryz.prog 56 cs o = if o + 5≤cs.length then some (.agg ((cs.drop o).take 5)) else none:=by kernel_rfl
@[simp] theorem fld_56_0:fieldP Tryz.prog 56 0 = some (3,0):=by kernel_rfl
@[simp] theorem fld_56_1:fieldP Tryz.prog 56 1 = some (55,1):=by kernel_rfl
@[simp] theorem fld_56_2:fieldP Tryz.prog 56 2 = some (55,3):=by kernel_rfl
@[simp] theorem build_56 (ps:List (Nat × V)):evBuild Tryz.prog 56 ps = if (ps.all fun p=>flatOk p.2) = true then ma1 .agg (fillV (fun i=>[(0,1),(1,2),(3,2)][i]?) [.int .i64 0,.int .i64 0,.int .i64 0,.int .i64 0,.int .i64 0] ps) else none:=build_of (by kernel_rfl) Tryz.underlying56 (by kernel_rfl) (by kernel_rfl) ps
@[simp] theorem cells_57:Tryz.prog.cellsOf 57 = 5:=by kernel_rfl
@[simp] theorem bytes_57:Tryz.prog.bytesOf 57 = 40:=by kernel_rfl
@[simp] theorem zero_57:zeroC Tryz.prog 57 = some [.int .i64 0,.int .i64 0,.int .i64 0,.int .i64 0,.int .i64 0]:=by kernel_rfl
@[simp] theorem zok_57:zOk Tryz.prog 57 = true:=by kernel_rfl
@[simp] theorem whole_57 (cs:List V):whole Tryz.prog 57 cs = if 5≤cs.length then some (.agg (cs.take 5)) else none:=by kernel_rfl
@[simp] theorem part_57 (cs:List V) (o:Nat):partV Tryz.prog 57 cs o = if o + 5≤cs.length then some (.agg ((cs.drop o).take 5)) else none:=by kernel_rfl
@[simp] theorem fld_57_0:fieldP Tryz.prog 57 0 = some (3,0):=by kernel_rfl
@[simp] theorem fld_57_1:fieldP Tryz.prog 57 1 = some (55,1):=by kernel_rfl
@[simp] theorem fld_57_2:fieldP Tryz.prog 57 2 = some (55,3):=by kernel_rfl
@[simp] theorem build_57 (ps:List (Nat × V)):evBuild Tryz.prog 57 ps = if (ps.all fun p=>flatOk p.2) = true then ma1 .agg (fillV (fun i=>[(0,1),(1,2),(3,2)][i]?) [.int .i64 0,.int .i64 0,.int .i64 0,.int .i64 0,.int .i64 0] ps) else none:=build_of (by kernel_rfl) Tryz.underlying57 (by kernel_rfl) (by kernel_rfl) ps
@[simp] theorem cells_58:Tryz.prog.cellsOf 58 = 3:=by kernel_rfl
@[simp] theorem bytes_58:Tryz.prog.bytesOf 58 = 24:=by kernel_rfl
@[simp] theorem zero_58:zeroC Tryz.prog 58 = some [.int .i64 0,.int .i64 0,.int .i64 0]:=by kernel_rfl
@[simp] theorem zok_58:zOk Tryz.prog 58 = true:=by kernel_rfl
@[simp] theorem whole_58 (cs:List V):whole Tryz.prog 58 cs = if 3≤cs.length then some (.agg (cs.take 3)) else none:=by kernel_rfl
@[simp] theorem part_58 (cs:List V) (o:Nat):partV Tryz.prog 58 cs o = if o + 3≤cs.length then some (.agg ((cs.drop o).take 3)) else none:=by kernel_rfl
@[simp] theorem fld_58_0:fieldP Tryz.prog 58 0 = some (3,0):=by kernel_rfl
@[simp] theorem fld_58_1:fieldP Tryz.prog 58 1 = some (3,1):=by kernel_rfl
@[simp] theorem fld_58_2:fieldP Tryz.prog 58 2 = some (3,2):=by kernel_rfl
@[simp] theorem build_58 (ps:List (Nat × V)):evBuild Tryz.prog 58 ps = if (ps.all fun p=>flatOk p.2) = true then ma1 .agg (fillV (fun i=>[(0,1),(1,1),(2,1)][i]?) [.int .i64 0,.int .i64 0,.int .i64 0] ps) else none:=build_of (by kernel_rfl) Tryz.underlying58 (by kernel_rfl) (by kernel_rfl) ps
@[simp] theorem cells_59:Tryz.prog.cellsOf 59 = 3:=by kernel_rfl
@[simp] theorem bytes_59:Tryz.prog.bytesOf 59 = 24:=by kernel_rfl
@[simp] theorem zero_59:zeroC Tryz.prog 59 = some [.int .i64 0,.int .i64 0,.int .i64 0]:=by kernel_rfl
@[simp] theorem zok_59:zOk Tryz.prog 59 = true:=by kernel_rfl
@[simp] theorem whole_59 (cs:List V):whole Tryz.prog 59 cs = if 3≤cs.length then some (.agg (cs.take 3)) else none:=by kernel_rfl
@[simp] theorem part_59 (cs:List V) (o:Nat):partV Tryz.prog 59 cs o = if o + 3≤cs.length then some (.agg ((cs.drop o).take 3)) else none:=by kernel_rfl
@[simp] theorem fld_59_0:fieldP Tryz.prog 59 0 = some (3,0):=by kernel_rfl
@[simp] theorem fld_59_1:fieldP Tryz.prog 59 1 = some (3,1):=by kernel_rfl
@[simp] theorem fld_59_2:fieldP Tryz.prog 59 2 = some (3,2):=by kernel_rfl
@[simp] theorem build_59 (ps:List (Nat × V)):evBuild Tryz.prog 59 ps = if (ps.all fun p=>flatOk p.2) = true then ma1 .agg (fillV (fun i=>[(0,1),(1,1),(2,1)][i]?) [.int .i64 0,.int .i64 0,.int .i64 0] ps) else none:=build_of (by kernel_rfl) Tryz.underlying59 (by kernel_rfl) (by kernel_rfl) ps
@[simp] theorem cells_60:Tryz.prog.cellsOf 60 = 1:=by kernel_rfl
@[simp] theorem bytes_60:Tryz.prog.bytesOf 60 = 24:=by kernel_rfl
@[simp] theorem zero_60:zeroC Tryz.prog 60 = some [.nil]:=by kernel_rfl
@[simp] theorem zok_60:zOk Tryz.prog 60 = true:=by kernel_rfl
@[simp] theorem whole_60 (cs:List V):whole Tryz.prog 60 cs = cs[0]?:=by kernel_rfl
@[simp] theorem part_60 (cs:List V) (o:Nat):partV Tryz.prog 60 cs o = cs[o]?:=by kernel_rfl
@[simp] theorem elem_60:elemT Tryz.prog 60 = (some (none,59)):=by kernel_rfl
@[simp] theorem isS_60:sliceT Tryz.prog 60 = true:=by kernel_rfl
@[simp] theorem cells_61:Tryz.prog.cellsOf 61 = 1:=by kernel_rfl
@[simp] theorem bytes_61:Tryz.prog.bytesOf 61 = 24:=by kernel_rfl
@[simp] theorem zero_61:zeroC Tryz.prog 61 = some [.nil]:=by kernel_rfl
@[simp] theorem zok_61:zOk Tryz.prog 61 = true:=by kernel_rfl
@[simp] theorem whole_61 (cs:List V):whole Tryz.prog 61 cs = cs[0]?:=by kernel_rfl
@[simp] theorem part_61 (cs:List V) (o:Nat):partV Tryz.prog 61 cs o = cs[o]?:=by kernel_rfl
@[simp] theorem elem_61:elemT Tryz.prog 61 = (some (none,60)):=by kernel_rfl
@[simp] theorem isS_61:sliceT Tryz.prog 61 = true:=by kernel_rfl
@[simp] theorem cells_62:Tryz.prog.cellsOf 62 = 1:=by kernel_rfl
@[simp] theorem bytes_62:Tryz.prog.bytesOf 62 = 8:=by kernel_rfl
@[simp] theorem zero_62:zeroC Tryz.prog 62 = some [(.raw .nilFunc)]:=by kernel_rfl
@[simp] theorem zok_62:zOk Tryz.prog 62 = true:=by kernel_rfl
@[simp] theorem whole_62 (cs:List V):whole Tryz.prog 62 cs = cs[0]?:=by kernel_rfl
@[simp] theorem part_62 (cs:List V) (o:Nat):partV Tryz.prog 62 cs o = cs[o]?:=by kernel_rfl
@[simp] theorem cells_63:Tryz.prog.cellsOf 63 = 1:=by kernel_rfl
@[simp] theorem bytes_63:Tryz.prog.bytesOf 63 = 8:=by kernel_rfl
@[simp] theorem zero_63:zeroC Tryz.prog 63 = some [(.raw .nilFunc)]:=by kernel_rfl
@[simp] theorem zok_63:zOk Tryz.prog 63 = true:=by kernel_rfl
@[simp] theorem whole_63 (cs:List V):whole Tryz.prog 63 cs = cs[0]?:=by kernel_rfl
@[simp] theorem part_63 (cs:List V) (o:Nat):partV Tryz.prog 63 cs o = cs[o]?:=by kernel_rfl
@[simp] theorem cells_64:Tryz.prog.cellsOf 64 = 1:=by kernel_rfl
@[simp] theorem bytes_64:Tryz.prog.bytesOf 64 = 8:=by kernel_rfl
@[simp] theorem zero_64:zeroC Tryz.prog 64 = some [(.raw .nilFunc)]:=by kernel_rfl
@[simp] theorem zok_64:zOk Tryz.prog 64 = true:=by kernel_rfl
@[simp] theorem whole_64 (cs:List V):whole Tryz.prog 64 cs = cs[0]?:=by kernel_rfl
@[simp] theorem part_64 (cs:List V) (o:Nat):partV Tryz.prog 64 cs o = cs[o]?:=by kernel_rfl
@[simp] theorem cells_65:Tryz.prog.cellsOf 65 = 2:=by kernel_rfl
@[simp] theorem bytes_65:Tryz.prog.bytesOf 65 = 16:=by kernel_rfl
@[simp] theorem zero_65:zeroC Tryz.prog 65 = some [.int .i64 0,.int .i64 0]:=by kernel_rfl
@[simp] theorem zok_65:zOk Tryz.prog 65 = true:=by kernel_rfl
@[simp] theorem whole_65 (cs:List V):whole Tryz.prog 65 cs = if 2≤cs.length then some (.agg (cs.take 2)) else none:=by kernel_rfl
@[simp] theorem part_65 (cs:List V) (o:Nat):partV Tryz.prog 65 cs o = if o + 2≤cs.length then some (.agg ((cs.drop o).take 2)) else none:=by kernel_rfl
@[simp] theorem fld_65_0:fieldP Tryz.prog 65 0 = some (3,0):=by kernel_rfl
@[simp] theorem fld_65_1:fieldP Tryz.prog 65 1 = some (3,1):=by kernel_rfl
@[simp] theorem build_65 (ps:List (Nat × V)):evBuild Tryz.prog 65 ps = if (ps.all fun p=>flatOk p.2) = true then ma1 .agg (fillV (fun i=>[(0,1),(1,1)][i]?) [.int .i64 0,.int .i64 0] ps) else none:=build_of (by kernel_rfl) Tryz.underlying65 (by kernel_rfl) (by kernel_rfl) ps
@[simp] theorem cells_66:Tryz.prog.cellsOf 66 = 1:=by kernel_rfl
@[simp] theorem bytes_66:Tryz.prog.bytesOf 66 = 8:=by kernel_rfl
@[simp] theorem zero_66:zeroC Tryz.prog 66 = some [(.raw .nilFunc)]:=by kernel_rfl
@[simp] theorem zok_66:zOk Tryz.prog 66 = true:=by kernel_rfl
@[simp] theorem whole_66 (cs:List V):whole Tryz.prog 66 cs = cs[0]?:=by kernel_rfl
@[simp] theorem part_66 (cs:List V) (o:Nat):partV Tryz.prog 66 cs o = cs[o]?:=by kernel_rfl
@[simp] theorem cells_68:Tryz.prog.cellsOf 68 = 1:=by kernel_rfl
@[simp] theorem bytes_68:Tryz.prog.bytesOf 68 = 8:=by kernel_rfl
@[simp] theorem zero_68:zeroC Tryz.prog 68 = some [(.raw .nilFunc)]:=by kernel_rfl
@[simp] theorem zok_68:zOk Tryz.prog 68 = true:=by kernel_rfl
@[simp] theorem whole_68 (cs:List V):whole Tryz.prog 68 cs = cs[0]?:=by kernel_rfl
@[simp] theorem part_68 (cs:List V) (o:Nat):partV Tryz.prog 68 cs o = cs[o]?:=by kernel_rfl
@[simp] theorem cells_69:Tryz.prog.cellsOf 69 = 1:=by kernel_rfl
@[simp] theorem bytes_69:Tryz.prog.bytesOf 69 = 8:=by kernel_rfl
@[simp] theorem zero_69:zeroC Tryz.prog 69 = some [(.raw .nilFunc)]:=by kernel_rfl
@[simp] theorem zok_69:zOk Tryz.prog 69 = true:=by kernel_rfl
@[simp] theorem whole_69 (cs:List V):whole Tryz.prog 69 cs = cs[0]?:=by kernel_rfl
@[simp] theorem part_69 (cs:List V) (o:Nat):partV Tryz.prog 69 cs o = cs[o]?:=by kernel_rfl
@[simp] theorem cells_70:Tryz.prog.cellsOf 70 = 1:=by kernel_rfl
@[simp] theorem bytes_70:Tryz.prog.bytesOf 70 = 8:=by kernel_rfl
@[simp] theorem zero_70:zeroC Tryz.prog 70 = some [(.raw .nilFunc)]:=by kernel_rfl
@[simp] theorem zok_70:zOk Tryz.prog 70 = true:=by kernel_rfl
@[simp] theorem whole_70 (cs:List V):whole Tryz.prog 70 cs = cs[0]?:=by kernel_rfl
@[simp] theorem part_70 (cs:List V) (o:Nat):partV Tryz.prog 70 cs o = cs[o]?:=by kernel_rfl
@[simp] theorem cells_71:Tryz.prog.cellsOf 71 = 1:=by kernel_rfl
@[simp] theorem bytes_71:Tryz.prog.bytesOf 71 = 8:=by kernel_rfl
@[simp] theorem zero_71:zeroC Tryz.prog 71 = some [(.raw .nilFunc)]:=by kernel_rfl
@[simp] theorem zok_71:zOk Tryz.prog 71 = true:=by kernel_rfl
@[simp] theorem whole_71 (cs:List V):whole Tryz.prog 71 cs = cs[0]?:=by kernel_rfl
@[simp] theorem part_71 (cs:List V) (o:Nat):partV Tryz.prog 71 cs o = cs[o]?:=by kernel_rfl
@[simp] theorem cells_72:Tryz.prog.cellsOf 72 = 1:=by kernel_rfl
@[simp] theorem bytes_72:Tryz.prog.bytesOf 72 = 8:=by kernel_rfl
@[simp] theorem zero_72:zeroC Tryz.prog 72 = some [(.raw .nilFunc)]:=by kernel_rfl
@[simp] theorem zok_72:zOk Tryz.prog 72 = true:=by kernel_rfl
@[simp] theorem whole_72 (cs:List V):whole Tryz.prog 72 cs = cs[0]?:=by kernel_rfl
@[simp] theorem part_72 (cs:List V) (o:Nat):partV Tryz.prog 72 cs o = cs[o]?:=by kernel_rfl
@[simp] theorem cells_73:Tryz.prog.cellsOf 73 = 1:=by kernel_rfl
@[simp] theorem bytes_73:Tryz.prog.bytesOf 73 = 8:=by kernel_rfl
@[simp] theorem zero_73:zeroC Tryz.prog 73 = some [(.raw .nilFunc)]:=by kernel_rfl
@[simp] theorem zok_73:zOk Tryz.prog 73 = true:=by kernel_rfl
@[simp] theorem whole_73 (cs:List V):whole Tryz.prog 73 cs = cs[0]?:=by kernel_rfl
@[simp] theorem part_73 (cs:List V) (o:Nat):partV Tryz.prog 73 cs o = cs[o]?:=by kernel_rfl
@[simp] theorem cells_74:Tryz.prog.cellsOf 74 = 1:=by kernel_rfl
@[simp] theorem bytes_74:Tryz.prog.bytesOf 74 = 8:=by kernel_rfl
@[simp] theorem zero_74:zeroC Tryz.prog 74 = some [(.raw .nilFunc)]:=by kernel_rfl
@[simp] theorem zok_74:zOk Tryz.prog 74 = true:=by kernel_rfl
@[simp] theorem whole_74 (cs:List V):whole Tryz.prog 74 cs = cs[0]?:=by kernel_rfl
@[simp] theorem part_74 (cs:List V) (o:Nat):partV Tryz.prog 74 cs o = cs[o]?:=by kernel_rfl
@[simp] theorem cells_76:Tryz.prog.cellsOf 76 = 1:=by kernel_rfl
@[simp] theorem bytes_76:Tryz.prog.bytesOf 76 = 8:=by kernel_rfl
@[simp] theorem zero_76:zeroC Tryz.prog 76 = some [(.raw .nilFunc)]:=by kernel_rfl
@[simp] theorem zok_76:zOk Tryz.prog 76 = true:=by kernel_rfl
@[simp] theorem whole_76 (cs:List V):whole Tryz.prog 76 cs = cs[0]?:=by kernel_rfl
@[simp] theorem part_76 (cs:List V) (o:Nat):partV Tryz.prog 76 cs o = cs[o]?:=by kernel_rfl
@[simp] theorem cells_77:Tryz.prog.cellsOf 77 = 1:=by kernel_rfl
@[simp] theorem bytes_77:Tryz.prog.bytesOf 77 = 8:=by kernel_rfl
@[simp] theorem zero_77:zeroC Tryz.prog 77 = some [(.raw .nilFunc)]:=by kernel_rfl
@[simp] theorem zok_77:zOk Tryz.prog 77 = true:=by kernel_rfl
@[simp] theorem whole_77 (cs:List V):whole Tryz.prog 77 cs = cs[0]?:=by kernel_rfl
@[simp] theorem part_77 (cs:List V) (o:Nat):partV Tryz.prog 77 cs o = cs[o]?:=by kernel_rfl
@[simp] theorem cells_78:Tryz.prog.cellsOf 78 = 1:=by kernel_rfl
@[simp] theorem bytes_78:Tryz.prog.bytesOf 78 = 8:=by kernel_rfl
@[simp] theorem zero_78:zeroC Tryz.prog 78 = some [(.raw .nilFunc)]:=by kernel_rfl
@[simp] theorem zok_78:zOk Tryz.prog 78 = true:=by kernel_rfl
@[simp] theorem whole_78 (cs:List V):whole Tryz.prog 78 cs = cs[0]?:=by kernel_rfl
@[simp] theorem part_78 (cs:List V) (o:Nat):partV Tryz.prog 78 cs o = cs[o]?:=by kernel_rfl
@[simp] theorem cells_79:Tryz.prog.cellsOf 79 = 1:=by kernel_rfl
@[simp] theorem bytes_79:Tryz.prog.bytesOf 79 = 8:=by kernel_rfl
@[simp] theorem zero_79:zeroC Tryz.prog 79 = some [(.raw .nilFunc)]:=by kernel_rfl
@[simp] theorem zok_79:zOk Tryz.prog 79 = true:=by kernel_rfl
@[simp] theorem whole_79 (cs:List V):whole Tryz.prog 79 cs = cs[0]?:=by kernel_rfl
@[simp] theorem part_79 (cs:List V) (o:Nat):partV Tryz.prog 79 cs o = cs[o]?:=by kernel_rfl
@[simp] theorem cells_80:Tryz.prog.cellsOf 80 = 1:=by kernel_rfl
@[simp] theorem bytes_80:Tryz.prog.bytesOf 80 = 8:=by kernel_rfl
@[simp] theorem zero_80:zeroC Tryz.prog 80 = some [(.raw .nilFunc)]:=by kernel_rfl
@[simp] theorem zok_80:zOk Tryz.prog 80 = true:=by kernel_rfl
@[simp] theorem whole_80 (cs:List V):whole Tryz.prog 80 cs = cs[0]?:=by kernel_rfl
@[simp] theorem part_80 (cs:List V) (o:Nat):partV Tryz.prog 80 cs o = cs[o]?:=by kernel_rfl
@[simp] theorem cells_82:Tryz.prog.cellsOf 82 = 1:=by kernel_rfl
@[simp] theorem bytes_82:Tryz.prog.bytesOf 82 = 8:=by kernel_rfl
@[simp] theorem zero_82:zeroC Tryz.prog 82 = some [(.raw .nilFunc)]:=by kernel_rfl
@[simp] theorem zok_82:zOk Tryz.prog 82 = true:=by kernel_rfl
@[simp] theorem whole_82 (cs:List V):whole Tryz.prog 82 cs = cs[0]?:=by kernel_rfl
@[simp] theorem part_82 (cs:List V) (o:Nat):partV Tryz.prog 82 cs o = cs[o]?:=by kernel_rfl
@[simp] theorem cells_83:Tryz.prog.cellsOf 83 = 1:=by kernel_rfl
@[simp] theorem bytes_83:Tryz.prog.bytesOf 83 = 8:=by kernel_rfl
@[simp] theorem zero_83:zeroC Tryz.prog 83 = some [(.raw .nilFunc)]:=by kernel_rfl
@[simp] theorem zok_83:zOk Tryz.prog 83 = true:=by kernel_rfl
@[simp] theorem whole_83 (cs:List V):whole Tryz.prog 83 cs = cs[0]?:=by kernel_rfl
@[simp] theorem part_83 (cs:List V) (o:Nat):partV Tryz.prog 83 cs o = cs[o]?:=by kernel_rfl
@[simp] theorem cells_84:Tryz.prog.cellsOf 84 = 1:=by kernel_rfl
@[simp] theorem bytes_84:Tryz.prog.bytesOf 84 = 8:=by kernel_rfl
@[simp] theorem zero_84:zeroC Tryz.prog 84 = some [(.raw .nilFunc)]:=by kernel_rfl
@[simp] theorem zok_84:zOk Tryz.prog 84 = true:=by kernel_rfl
@[simp] theorem whole_84 (cs:List V):whole Tryz.prog 84 cs = cs[0]?:=by kernel_rfl
@[simp] theorem part_84 (cs:List V) (o:Nat):partV Tryz.prog 84 cs o = cs[o]?:=by kernel_rfl
@[simp] theorem cells_85:Tryz.prog.cellsOf 85 = 1:=by kernel_rfl
@[simp] theorem bytes_85:Tryz.prog.bytesOf 85 = 8:=by kernel_rfl
@[simp] theorem zero_85:zeroC Tryz.prog 85 = some [(.raw .nilFunc)]:=by kernel_rfl
@[simp] theorem zok_85:zOk Tryz.prog 85 = true:=by kernel_rfl
@[simp] theorem whole_85 (cs:List V):whole Tryz.prog 85 cs = cs[0]?:=by kernel_rfl
@[simp] theorem part_85 (cs:List V) (o:Nat):partV Tryz.prog 85 cs o = cs[o]?:=by kernel_rfl
@[simp] theorem cells_86:Tryz.prog.cellsOf 86 = 1:=by kernel_rfl
@[simp] theorem bytes_86:Tryz.prog.bytesOf 86 = 8:=by kernel_rfl
@[simp] theorem zero_86:zeroC Tryz.prog 86 = some [(.raw .nilFunc)]:=by kernel_rfl
@[simp] theorem zok_86:zOk Tryz.prog 86 = true:=by kernel_rfl
@[simp] theorem whole_86 (cs:List V):whole Tryz.prog 86 cs = cs[0]?:=by kernel_rfl
@[simp] theorem part_86 (cs:List V) (o:Nat):partV Tryz.prog 86 cs o = cs[o]?:=by kernel_rfl
@[simp] theorem cells_87:Tryz.prog.cellsOf 87 = 1:=by kernel_rfl
@[simp] theorem bytes_87:Tryz.prog.bytesOf 87 = 24:=by kernel_rfl
@[simp] theorem zero_87:zeroC Tryz.prog 87 = some [.nil]:=by kernel_rfl
@[simp] theorem zok_87:zOk Tryz.prog 87 = true:=by kernel_rfl
@[simp] theorem whole_87 (cs:List V):whole Tryz.prog 87 cs = cs[0]?:=by kernel_rfl
@[simp] theorem part_87 (cs:List V) (o:Nat):partV Tryz.prog 87 cs o = cs[o]?:=by kernel_rfl
@[simp] theorem elem_87:elemT Tryz.prog 87 = (some (none,95)):=by kernel_rfl
@[simp] theorem isS_87:sliceT Tryz.prog 87 = true:=by kernel_rfl
@[simp] theorem cells_88:Tryz.prog.cellsOf 88 = 1:=by kernel_rfl
@[simp] theorem bytes_88:Tryz.prog.bytesOf 88 = 8:=by kernel_rfl
@[simp] theorem zero_88:zeroC Tryz.prog 88 = some [(.raw .nilFunc)]:=by kernel_rfl
@[simp] theorem zok_88:zOk Tryz.prog 88 = true:=by kernel_rfl
@[simp] theorem whole_88 (cs:List V):whole Tryz.prog 88 cs = cs[0]?:=by kernel_rfl
@[simp] theorem part_88 (cs:List V) (o:Nat):partV Tryz.prog 88 cs o = cs[o]?:=by kernel_rfl
@[simp] theorem cells_89:Tryz.prog.cellsOf 89 = 1:=by kernel_rfl
@[simp] theorem bytes_89:Tryz.prog.bytesOf 89 = 8:=by kernel_rfl
@[simp] theorem zero_89:zeroC Tryz.prog 89 = some [(.raw .nilFunc)]:=by kernel_rfl
@[simp] theorem zok_89:zOk Tryz.prog 89 = true:=by kernel_rfl
@[simp] theorem whole_89 (cs:List V):whole Tryz.prog 89 cs = cs[0]?:=by kernel_rfl
@[simp] theorem part_89 (cs:List V) (o:Nat):partV Tryz.prog 89 cs o = cs[o]?:=by kernel_rfl
@[simp] theorem cells_90:Tryz.prog.cellsOf 90 = 1:=by kernel_rfl
@[simp] theorem bytes_90:Tryz.prog.bytesOf 90 = 8:=by kernel_rfl
@[simp] theorem zero_90:zeroC Tryz.prog 90 = some [(.raw .nilFunc)]:=by kernel_rfl
@[simp] theorem zok_90:zOk Tryz.prog 90 = true:=by kernel_rfl
@[simp] theorem whole_90 (cs:List V):whole Tryz.prog 90 cs = cs[0]?:=by kernel_rfl
@[simp] theorem part_90 (cs:List V) (o:Nat):partV Tryz.prog 90 cs o = cs[o]?:=by kernel_rfl
@[simp] theorem cells_91:Tryz.prog.cellsOf 91 = 1:=by kernel_rfl
@[simp] theorem bytes_91:Tryz.prog.bytesOf 91 = 8:=by kernel_rfl
@[simp] theorem zero_91:zeroC Tryz.prog 91 = some [(.raw .nilFunc)]:=by kernel_rfl
@[simp] theorem zok_91:zOk Tryz.prog 91 = true:=by kernel_rfl
@[simp] theorem whole_91 (cs:List V):whole Tryz.prog 91 cs = cs[0]?:=by kernel_rfl
@[simp] theorem part_91 (cs:List V) (o:Nat):partV Tryz.prog 91 cs o = cs[o]?:=by kernel_rfl
@[simp] theorem cells_92:Tryz.prog.cellsOf 92 = 6:=by kernel_rfl
@[simp] theorem bytes_92:Tryz.prog.bytesOf 92 = 6:=by kernel_rfl
@[simp] theorem zero_92:zeroC Tryz.prog 92 = some [.bool false,.bool false,.bool false,.bool false,.bool false,.bool false]:=by kernel_rfl
@[simp] theorem zok_92:zOk Tryz.prog 92 = true:=by kernel_rfl
@[simp] theorem whole_92 (cs:List V):whole Tryz.prog 92 cs = if 6≤cs.length then some (.agg (cs.take 6)) else none:=by kernel_rfl
@[simp] theorem part_92 (cs:List V) (o:Nat):partV Tryz.prog 92 cs o = if o + 6≤cs.length then some (.agg ((cs.drop o).take 6)) else none:=by kernel_rfl
@[simp] theorem elem_92:elemT Tryz.prog 92 = (some ((some 6),4)):=by kernel_rfl
@[simp] theorem cells_93:Tryz.prog.cellsOf 93 = 1:=by kernel_rfl
@[simp] theorem bytes_93:Tryz.prog.bytesOf 93 = 8:=by kernel_rfl
@[simp] theorem zero_93:zeroC Tryz.prog 93 = some [.int .u64 0]:=by kernel_rfl
@[simp] theorem zok_93:zOk Tryz.prog 93 = true:=by kernel_rfl
@[simp] theorem whole_93 (cs:List V):whole Tryz.prog 93 cs = cs[0]?:=by kernel_rfl
@[simp] theorem part_93 (cs:List V) (o:Nat):partV Tryz.prog 93 cs o = cs[o]?:=by kernel_rfl
@[simp] theorem cells_94:Tryz.prog.cellsOf 94 = 1:=by kernel_rfl
@[simp] theorem bytes_94:Tryz.prog.bytesOf 94 = 8:=by kernel_rfl
@[simp] theorem zero_94:zeroC Tryz.prog 94 = some [(.raw .nilFunc)]:=by kernel_rfl
@[simp] theorem zok_94:zOk Tryz.prog 94 = true:=by kernel_rfl
@[simp] theorem whole_94 (cs:List V):whole Tryz.prog 94 cs = cs[0]?:=by kernel_rfl
@[simp] theorem part_94 (cs:List V) (o:Nat):partV Tryz.prog 94 cs o = cs[o]?:=by kernel_rfl
@[simp] theorem cells_95:Tryz.prog.cellsOf 95 = 1:=by kernel_rfl
@[simp] theorem bytes_95:Tryz.prog.bytesOf 95 = 2:=by kernel_rfl
@[simp] theorem zero_95:zeroC Tryz.prog 95 = some [.int .u16 0]:=by kernel_rfl
@[simp] theorem zok_95:zOk Tryz.prog 95 = true:=by kernel_rfl
@[simp] theorem whole_95 (cs:List V):whole Tryz.prog 95 cs = cs[0]?:=by kernel_rfl
@[simp] theorem part_95 (cs:List V) (o:Nat):partV Tryz.prog 95 cs o = cs[o]?:=by kernel_rfl
@[simp] theorem cells_96:Tryz.prog.cellsOf 96 = 1:=by kernel_rfl
@[simp] theorem bytes_96:Tryz.prog.bytesOf 96 = 8:=by kernel_rfl
@[simp] theorem zero_96:zeroC Tryz.prog 96 = some [(.raw .nilFunc)]:=by kernel_rfl
@[simp] theorem zok_96:zOk Tryz.prog 96 = true:=by kernel_rfl
@[simp] theorem whole_96 (cs:List V):whole Tryz.prog 96 cs = cs[0]?:=by kernel_rfl
@[simp] theorem part_96 (cs:List V) (o:Nat):partV Tryz.prog 96 cs o = cs[o]?:=by kernel_rfl
@[simp] theorem cells_97:Tryz.prog.cellsOf 97 = 1:=by kernel_rfl
@[simp] theorem bytes_97:Tryz.prog.bytesOf 97 = 8:=by kernel_rfl
@[simp] theorem zero_97:zeroC Tryz.prog 97 = some [(.raw .nilFunc)]:=by kernel_rfl
@[simp] theorem zok_97:zOk Tryz.prog 97 = true:=by kernel_rfl
@[simp] theorem whole_97 (cs:List V):whole Tryz.prog 97 cs = cs[0]?:=by kernel_rfl
@[simp] theorem part_97 (cs:List V) (o:Nat):partV Tryz.prog 97 cs o = cs[o]?:=by kernel_rfl
@[simp] theorem cells_98:Tryz.prog.cellsOf 98 = 1:=by kernel_rfl
@[simp] theorem bytes_98:Tryz.prog.bytesOf 98 = 8:=by kernel_rfl
@[simp] theorem zero_98:zeroC Tryz.prog 98 = some [(.raw .nilFunc)]:=by kernel_rfl
@[simp] theorem zok_98:zOk Tryz.prog 98 = true:=by kernel_rfl
@[simp] theorem whole_98 (cs:List V):whole Tryz.prog 98 cs = cs[0]?:=by kernel_rfl
@[simp] theorem part_98 (cs:List V) (o:Nat):partV Tryz.prog 98 cs o = cs[o]?:=by kernel_rfl
@[simp] theorem cells_99:Tryz.prog.cellsOf 99 = 1:=by kernel_rfl
@[simp] theorem bytes_99:Tryz.prog.bytesOf 99 = 8:=by kernel_rfl
@[simp] theorem zero_99:zeroC Tryz.prog 99 = some [(.raw .nilFunc)]:=by kernel_rfl
@[simp] theorem zok_99:zOk Tryz.prog 99 = true:=by kernel_rfl
@[simp] theorem whole_99 (cs:List V):whole Tryz.prog 99 cs = cs[0]?:=by kernel_rfl
@[simp] theorem part_99 (cs:List V) (o:Nat):partV Tryz.prog 99 cs o = cs[o]?:=by kernel_rfl
@[simp] theorem cells_100:Tryz.prog.cellsOf 100 = 2:=by kernel_rfl
@[simp] theorem bytes_100:Tryz.prog.bytesOf 100 = 16:=by kernel_rfl
@[simp] theorem zero_100:zeroC Tryz.prog 100 = some [.int .i64 0,.int .i64 0]:=by kernel_rfl
@[simp] theorem zok_100:zOk Tryz.prog 100 = true:=by kernel_rfl
@[simp] theorem whole_100 (cs:List V):whole Tryz.prog 100 cs = if 2≤cs.length then some (.agg (cs.take 2)) else none:=by kernel_rfl
@[simp] theorem part_100 (cs:List V) (o:Nat):partV Tryz.prog 100 cs o = if o + 2≤cs.length then some (.agg ((cs.drop o).take 2)) else none:=by kernel_rfl
@[simp] theorem fld_100_0:fieldP Tryz.prog 100 0 = some (3,0):=by kernel_rfl
@[simp] theorem fld_100_1:fieldP Tryz.prog 100 1 = some (3,1):=by kernel_rfl
@[simp] theorem build_100 (ps:List (Nat × V)):evBuild Tryz.prog 100 ps = if (ps.all fun p=>flatOk p.2) = true then ma1 .agg (fillV (fun i=>[(0,1),(1,1)][i]?) [.int .i64 0,.int .i64 0] ps) else none:=build_of (by kernel_rfl) Tryz.underlying100 (by kernel_rfl) (by kernel_rfl) ps
@[simp] theorem cells_101:Tryz.prog.cellsOf 101 = 2:=by kernel_rfl
@[simp] theorem bytes_101:Tryz.prog.bytesOf 101 = 16:=by kernel_rfl
@[simp] theorem zero_101:zeroC Tryz.prog 101 = some [.int .i64 0,.int .i64 0]:=by kernel_rfl
@[simp] theorem zok_101:zOk Tryz.prog 101 = true:=by kernel_rfl
@[simp] theorem whole_101 (cs:List V):whole Tryz.prog 101 cs = if 2≤cs.length then some (.agg (cs.take 2)) else none:=by kernel_rfl
@[simp] theorem part_101 (cs:List V) (o:Nat):partV Tryz.prog 101 cs o = if o + 2≤cs.length then some (.agg ((cs.drop o).take 2)) else none:=by kernel_rfl
@[simp] theorem fld_101_0:fieldP Tryz.prog 101 0 = some (3,0):=by kernel_rfl
@[simp] theorem fld_101_1:fieldP Tryz.prog 101 1 = some (3,1):=by kernel_rfl
@[simp] theorem build_101 (ps:List (Nat × V)):evBuild Tryz.prog 101 ps = if (ps.all fun p=>flatOk p.2) = true then ma1 .agg (fillV (fun i=>[(0,1),(1,1)][i]?) [.int .i64 0,.int .i64 0] ps) else none:=build_of (by kernel_rfl) Tryz.underlying101 (by kernel_rfl) (by kernel_rfl) ps
@[simp] theorem cells_102:Tryz.prog.cellsOf 102 = 1:=by kernel_rfl
@[simp] theorem bytes_102:Tryz.prog.bytesOf 102 = 8:=by kernel_rfl
@[simp] theorem zero_102:zeroC Tryz.prog 102 = some [(.raw .nilFunc)]:=by kernel_rfl
@[simp] theorem zok_102:zOk Tryz.prog 102 = true:=by kernel_rfl
@[simp] theorem whole_102 (cs:List V):whole Tryz.prog 102 cs = cs[0]?:=by kernel_rfl
@[simp] theorem part_102 (cs:List V) (o:Nat):partV Tryz.prog 102 cs o = cs[o]?:=by kernel_rfl
@[simp] theorem cells_103:Tryz.prog.cellsOf 103 = 1:=by kernel_rfl
@[simp] theorem bytes_103:Tryz.prog.bytesOf 103 = 24:=by kernel_rfl
@[simp] theorem zero_103:zeroC Tryz.prog 103 = some [.nil]:=by kernel_rfl
@[simp] theorem zok_103:zOk Tryz.prog 103 = true:=by kernel_rfl
@[simp] theorem whole_103 (cs:List V):whole Tryz.prog 103 cs = cs[0]?:=by kernel_rfl
@[simp] theorem part_103 (cs:List V) (o:Nat):partV Tryz.prog 103 cs o = cs[o]?:=by kernel_rfl
@[simp] theorem elem_103:elemT Tryz.prog 103 = (some (none,108)):=by kernel_rfl
@[simp] theorem isS_103:sliceT Tryz.prog 103 = true:=by kernel_rfl
@[simp] theorem cells_105:Tryz.prog.cellsOf 105 = 1:=by kernel_rfl
@[simp] theorem bytes_105:Tryz.prog.bytesOf 105 = 8:=by kernel_rfl
@[simp] theorem zero_105:zeroC Tryz.prog 105 = some [(.raw .nilFunc)]:=by kernel_rfl
@[simp] theorem zok_105:zOk Tryz.prog 105 = true:=by kernel_rfl
@[simp] theorem whole_105 (cs:List V):whole Tryz.prog 105 cs = cs[0]?:=by kernel_rfl
@[simp] theorem part_105 (cs:List V) (o:Nat):partV Tryz.prog 105 cs o = cs[o]?:=by kernel_rfl
@[simp] theorem cells_106:Tryz.prog.cellsOf 106 = 1:=by kernel_rfl
@[simp] theorem bytes_106:Tryz.prog.bytesOf 106 = 8:=by kernel_rfl
@[simp] theorem zero_106:zeroC Tryz.prog 106 = some [(.raw .nilFunc)]:=by kernel_rfl
@[simp] theorem zok_106:zOk Tryz.prog 106 = true:=by kernel_rfl
@[simp] theorem whole_106 (cs:List V):whole Tryz.prog 106 cs = cs[0]?:=by kernel_rfl
@[simp] theorem part_106 (cs:List V) (o:Nat):partV Tryz.prog 106 cs o = cs[o]?:=by kernel_rfl
@[simp] theorem cells_107:Tryz.prog.cellsOf 107 = 3:=by kernel_rfl
@[simp] theorem bytes_107:Tryz.prog.bytesOf 107 = 24:=by kernel_rfl
@[simp] theorem zero_107:zeroC Tryz.prog 107 = some [.int .i64 0,.int .i64 0,.int .i64 0]:=by kernel_rfl
@[simp] theorem zok_107:zOk Tryz.prog 107 = true:=by kernel_rfl
@[simp] theorem whole_107 (cs:List V):whole Tryz.prog 107 cs = if 3≤cs.length then some (.agg (cs.take 3)) else none:=by kernel_rfl
@[simp] theorem part_107 (cs:List V) (o:Nat):partV Tryz.prog 107 cs o = if o + 3≤cs.length then some (.agg ((cs.drop o).take 3)) else none:=by kernel_rfl
@[simp] theorem fld_107_0:fieldP Tryz.prog 107 0 = some (3,0):=by kernel_rfl
@[simp] theorem fld_107_1:fieldP Tryz.prog 107 1 = some (3,1):=by kernel_rfl
@[simp] theorem fld_107_2:fieldP Tryz.prog 107 2 = some (3,2):=by kernel_rfl
@[simp] theorem build_107 (ps:List (Nat × V)):evBuild Tryz.prog 107 ps = if (ps.all fun p=>flatOk p.2) = true then ma1 .agg (fillV (fun i=>[(0,1),(1,1),(2,1)][i]?) [.int .i64 0,.int .i64 0,.int .i64 0] ps) else none:=build_of (by kernel_rfl) Tryz.underlying107 (by kernel_rfl) (by kernel_rfl) ps
@[simp] theorem cells_108:Tryz.prog.cellsOf 108 = 1:=by kernel_rfl
@[simp] theorem bytes_108:Tryz.prog.bytesOf 108 = 24:=by kernel_rfl
@[simp] theorem zero_108:zeroC Tryz.prog 108 = some [.nil]:=by kernel_rfl
@[simp] theorem zok_108:zOk Tryz.prog 108 = true:=by kernel_rfl
@[simp] theorem whole_108 (cs:List V):whole Tryz.prog 108 cs = cs[0]?:=by kernel_rfl
@[simp] theorem part_108 (cs:List V) (o:Nat):partV Tryz.prog 108 cs o = cs[o]?:=by kernel_rfl
@[simp] theorem elem_108:elemT Tryz.prog 108 = (some (none,107)):=by kernel_rfl
@[simp] theorem isS_108:sliceT Tryz.prog 108 = true:=by kernel_rfl
@[simp] theorem cells_109:Tryz.prog.cellsOf 109 = 1:=by kernel_rfl
@[simp] theorem bytes_109:Tryz.prog.bytesOf 109 = 8:=by kernel_rfl
@[simp] theorem zero_109:zeroC Tryz.prog 109 = some [(.raw .nilFunc)]:=by kernel_rfl
@[simp] theorem zok_109:zOk Tryz.prog 109 = true:=by kernel_rfl
@[simp] theorem whole_109 (cs:List V):whole Tryz.prog 109 cs = cs[0]?:=by kernel_rfl
@[simp] theorem part_109 (cs:List V) (o:Nat):partV Tryz.prog 109 cs o = cs[o]?:=by kernel_rfl
@[simp] theorem cells_110:Tryz.prog.cellsOf 110 = 1:=by kernel_rfl
@[simp] theorem bytes_110:Tryz.prog.bytesOf 110 = 8:=by kernel_rfl
@[simp] theorem zero_110:zeroC Tryz.prog 110 = some [(.raw .nilFunc)]:=by kernel_rfl
@[simp] theorem zok_110:zOk Tryz.prog 110 = true:=by kernel_rfl
@[simp] theorem whole_110 (cs:List V):whole Tryz.prog 110 cs = cs[0]?:=by kernel_rfl
@[simp] theorem part_110 (cs:List V) (o:Nat):partV Tryz.prog 110 cs o = cs[o]?:=by kernel_rfl
@[simp] theorem cells_111:Tryz.prog.cellsOf 111 = 1:=by kernel_rfl
@[simp] theorem bytes_111:Tryz.prog.bytesOf 111 = 8:=by kernel_rfl
@[simp] theorem zero_111:zeroC Tryz.prog 111 = some [(.raw .nilFunc)]:=by kernel_rfl
@[simp] theorem zok_111:zOk Tryz.prog 111 = true:=by kernel_rfl
@[simp] theorem whole_111 (cs:List V):whole Tryz.prog 111 cs = cs[0]?:=by kernel_rfl
@[simp] theorem part_111 (cs:List V) (o:Nat):partV Tryz.prog 111 cs o = cs[o]?:=by kernel_rfl
@[simp] theorem cells_112:Tryz.prog.cellsOf 112 = 1:=by kernel_rfl
@[simp] theorem bytes_112:Tryz.prog.bytesOf 112 = 8:=by kernel_rfl
@[simp] theorem zero_112:zeroC Tryz.prog 112 = some [(.raw .nilFunc)]:=by kernel_rfl
@[simp] theorem zok_112:zOk Tryz.prog 112 = true:=by kernel_rfl
@[simp] theorem whole_112 (cs:List V):whole Tryz.prog 112 cs = cs[0]?:=by kernel_rfl
@[simp] theorem part_112 (cs:List V) (o:Nat):partV Tryz.prog 112 cs o = cs[o]?:=by kernel_rfl
@[simp] theorem cells_113:Tryz.prog.cellsOf 113 = 1:=by kernel_rfl
@[simp] theorem bytes_113:Tryz.prog.bytesOf 113 = 8:=by kernel_rfl
@[simp] theorem zero_113:zeroC Tryz.prog 113 = some [(.raw .nilFunc)]:=by kernel_rfl
@[simp] theorem zok_113:zOk Tryz.prog 113 = true:=by kernel_rfl
@[simp] theorem whole_113 (cs:List V):whole Tryz.prog 113 cs = cs[0]?:=by kernel_rfl
@[simp] theorem part_113 (cs:List V) (o:Nat):partV Tryz.prog 113 cs o = cs[o]?:=by kernel_rfl
@[simp] theorem cells_114:Tryz.prog.cellsOf 114 = 1:=by kernel_rfl
@[simp] theorem bytes_114:Tryz.prog.bytesOf 114 = 8:=by kernel_rfl
@[simp] theorem zero_114:zeroC Tryz.prog 114 = some [(.raw .nilFunc)]:=by kernel_rfl
@[simp] theorem zok_114:zOk Tryz.prog 114 = true:=by kernel_rfl
@[simp] theorem whole_114 (cs:List V):whole Tryz.prog 114 cs = cs[0]?:=by kernel_rfl
@[simp] theorem part_114 (cs:List V) (o:Nat):partV Tryz.prog 114 cs o = cs[o]?:=by kernel_rfl
@[simp] theorem cells_115:Tryz.prog.cellsOf 115 = 1:=by kernel_rfl
@[simp] theorem bytes_115:Tryz.prog.bytesOf 115 = 8:=by kernel_rfl
@[simp] theorem zero_115:zeroC Tryz.prog 115 = some [(.raw .nilFunc)]:=by kernel_rfl
@[simp] theorem zok_115:zOk Tryz.prog 115 = true:=by kernel_rfl
@[simp] theorem whole_115 (cs:List V):whole Tryz.prog 115 cs = cs[0]?:=by kernel_rfl
@[simp] theorem part_115 (cs:List V) (o:Nat):partV Tryz.prog 115 cs o = cs[o]?:=by kernel_rfl
@[simp] theorem cells_116:Tryz.prog.cellsOf 116 = 1:=by kernel_rfl
@[simp] theorem bytes_116:Tryz.prog.bytesOf 116 = 8:=by kernel_rfl
@[simp] theorem zero_116:zeroC Tryz.prog 116 = some [(.raw .nilFunc)]:=by kernel_rfl
@[simp] theorem zok_116:zOk Tryz.prog 116 = true:=by kernel_rfl
@[simp] theorem whole_116 (cs:List V):whole Tryz.prog 116 cs = cs[0]?:=by kernel_rfl
@[simp] theorem part_116 (cs:List V) (o:Nat):partV Tryz.prog 116 cs o = cs[o]?:=by kernel_rfl
@[simp] theorem cells_117:Tryz.prog.cellsOf 117 = 1:=by kernel_rfl
@[simp] theorem bytes_117:Tryz.prog.bytesOf 117 = 8:=by kernel_rfl
@[simp] theorem zero_117:zeroC Tryz.prog 117 = some [(.raw .nilFunc)]:=by kernel_rfl
@[simp] theorem zok_117:zOk Tryz.prog 117 = true:=by kernel_rfl
@[simp] theorem whole_117 (cs:List V):whole Tryz.prog 117 cs = cs[0]?:=by kernel_rfl
@[simp] theorem part_117 (cs:List V) (o:Nat):partV Tryz.prog 117 cs o = cs[o]?:=by kernel_rfl
@[simp] theorem cells_119:Tryz.prog.cellsOf 119 = 1:=by kernel_rfl
@[simp] theorem bytes_119:Tryz.prog.bytesOf 119 = 8:=by kernel_rfl
@[simp] theorem zero_119:zeroC Tryz.prog 119 = some [(.raw .nilFunc)]:=by kernel_rfl
@[simp] theorem zok_119:zOk Tryz.prog 119 = true:=by kernel_rfl
@[simp] theorem whole_119 (cs:List V):whole Tryz.prog 119 cs = cs[0]?:=by kernel_rfl
@[simp] theorem part_119 (cs:List V) (o:Nat):partV Tryz.prog 119 cs o = cs[o]?:=by kernel_rfl
@[simp] theorem cells_120:Tryz.prog.cellsOf 120 = 1:=by kernel_rfl
@[simp] theorem bytes_120:Tryz.prog.bytesOf 120 = 8:=by kernel_rfl
@[simp] theorem zero_120:zeroC Tryz.prog 120 = some [(.raw .nilFunc)]:=by kernel_rfl
@[simp] theorem zok_120:zOk Tryz.prog 120 = true:=by kernel_rfl
@[simp] theorem whole_120 (cs:List V):whole Tryz.prog 120 cs = cs[0]?:=by kernel_rfl
@[simp] theorem part_120 (cs:List V) (o:Nat):partV Tryz.prog 120 cs o = cs[o]?:=by kernel_rfl
@[simp] theorem cells_121:Tryz.prog.cellsOf 121 = 1:=by kernel_rfl
@[simp] theorem bytes_121:Tryz.prog.bytesOf 121 = 8:=by kernel_rfl
@[simp] theorem zero_121:zeroC Tryz.prog 121 = some [(.raw .nilFunc)]:=by kernel_rfl
@[simp] theorem zok_121:zOk Tryz.prog 121 = true:=by kernel_rfl
@[simp] theorem whole_121 (cs:List V):whole Tryz.prog 121 cs = cs[0]?:=by kernel_rfl
@[simp] theorem part_121 (cs:List V) (o:Nat):partV Tryz.prog 121 cs o = cs[o]?:=by kernel_rfl
@[simp] theorem cells_122:Tryz.prog.cellsOf 122 = 1:=by kernel_rfl
@[simp] theorem bytes_122:Tryz.prog.bytesOf 122 = 8:=by kernel_rfl
@[simp] theorem zero_122:zeroC Tryz.prog 122 = some [(.raw .nilFunc)]:=by kernel_rfl
@[simp] theorem zok_122:zOk Tryz.prog 122 = true:=by kernel_rfl
@[simp] theorem whole_122 (cs:List V):whole Tryz.prog 122 cs = cs[0]?:=by kernel_rfl
@[simp] theorem part_122 (cs:List V) (o:Nat):partV Tryz.prog 122 cs o = cs[o]?:=by kernel_rfl
@[simp] theorem cells_123:Tryz.prog.cellsOf 123 = 1:=by kernel_rfl
@[simp] theorem bytes_123:Tryz.prog.bytesOf 123 = 8:=by kernel_rfl
@[simp] theorem zero_123:zeroC Tryz.prog 123 = some [(.raw .nilFunc)]:=by kernel_rfl
@[simp] theorem zok_123:zOk Tryz.prog 123 = true:=by kernel_rfl
@[simp] theorem whole_123 (cs:List V):whole Tryz.prog 123 cs = cs[0]?:=by kernel_rfl
@[simp] theorem part_123 (cs:List V) (o:Nat):partV Tryz.prog 123 cs o = cs[o]?:=by kernel_rfl
@[simp] theorem cells_124:Tryz.prog.cellsOf 124 = 1:=by kernel_rfl
@[simp] theorem bytes_124:Tryz.prog.bytesOf 124 = 8:=by kernel_rfl
@[simp] theorem zero_124:zeroC Tryz.prog 124 = some [(.raw .nilFunc)]:=by kernel_rfl
@[simp] theorem zok_124:zOk Tryz.prog 124 = true:=by kernel_rfl
@[simp] theorem whole_124 (cs:List V):whole Tryz.prog 124 cs = cs[0]?:=by kernel_rfl
@[simp] theorem part_124 (cs:List V) (o:Nat):partV Tryz.prog 124 cs o = cs[o]?:=by kernel_rfl
@[simp] theorem cells_125:Tryz.prog.cellsOf 125 = 1:=by kernel_rfl
@[simp] theorem bytes_125:Tryz.prog.bytesOf 125 = 8:=by kernel_rfl
@[simp] theorem zero_125:zeroC Tryz.prog 125 = some [(.raw .nilFunc)]:=by kernel_rfl
@[simp] theorem zok_125:zOk Tryz.prog 125 = true:=by kernel_rfl
@[simp] theorem whole_125 (cs:List V):whole Tryz.prog 125 cs = cs[0]?:=by kernel_rfl
@[simp] theorem part_125 (cs:List V) (o:Nat):partV Tryz.prog 125 cs o = cs[o]?:=by kernel_rfl
@[simp] theorem cells_126:Tryz.prog.cellsOf 126 = 2:=by kernel_rfl
@[simp] theorem bytes_126:Tryz.prog.bytesOf 126 = 16:=by kernel_rfl
@[simp] theorem zero_126:zeroC Tryz.prog 126 = some [.int .i64 0,.int .i64 0]:=by kernel_rfl
@[simp] theorem zok_126:zOk Tryz.prog 126 = true:=by kernel_rfl
@[simp] theorem whole_126 (cs:List V):whole Tryz.prog 126 cs = if 2≤cs.length then some (.agg (cs.take 2)) else none:=by kernel_rfl
@[simp] theorem part_126 (cs:List V) (o:Nat):partV Tryz.prog 126 cs o = if o + 2≤cs.length then some (.agg ((cs.drop o).take 2)) else none:=by kernel_rfl
@[simp] theorem fld_126_0:fieldP Tryz.prog 126 0 = some (3,0):=by kernel_rfl
@[simp] theorem fld_126_1:fieldP Tryz.prog 126 1 = some (3,1):=by kernel_rfl
@[simp] theorem build_126 (ps:List (Nat × V)):evBuild Tryz.prog 126 ps = if (ps.all fun p=>flatOk p.2) = true then ma1 .agg (fillV (fun i=>[(0,1),(1,1)][i]?) [.int .i64 0,.int .i64 0] ps) else none:=build_of (by kernel_rfl) Tryz.underlying126 (by kernel_rfl) (by kernel_rfl) ps
@[simp] theorem cells_127:Tryz.prog.cellsOf 127 = 1:=by kernel_rfl
@[simp] theorem bytes_127:Tryz.prog.bytesOf 127 = 8:=by kernel_rfl
@[simp] theorem zero_127:zeroC Tryz.prog 127 = some [(.raw (.pointer none))]:=by kernel_rfl
@[simp] theorem zok_127:zOk Tryz.prog 127 = true:=by kernel_rfl
@[simp] theorem whole_127 (cs:List V):whole Tryz.prog 127 cs = cs[0]?:=by kernel_rfl
@[simp] theorem part_127 (cs:List V) (o:Nat):partV Tryz.prog 127 cs o = cs[o]?:=by kernel_rfl
@[simp] theorem cells_129:Tryz.prog.cellsOf 129 = 1:=by kernel_rfl
@[simp] theorem bytes_129:Tryz.prog.bytesOf 129 = 8:=by kernel_rfl
@[simp] theorem zero_129:zeroC Tryz.prog 129 = some [(.raw .nilFunc)]:=by kernel_rfl
@[simp] theorem zok_129:zOk Tryz.prog 129 = true:=by kernel_rfl
@[simp] theorem whole_129 (cs:List V):whole Tryz.prog 129 cs = cs[0]?:=by kernel_rfl
@[simp] theorem part_129 (cs:List V) (o:Nat):partV Tryz.prog 129 cs o = cs[o]?:=by kernel_rfl
@[simp] theorem cells_130:Tryz.prog.cellsOf 130 = 1:=by kernel_rfl
@[simp] theorem bytes_130:Tryz.prog.bytesOf 130 = 8:=by kernel_rfl
@[simp] theorem zero_130:zeroC Tryz.prog 130 = some [(.raw .nilFunc)]:=by kernel_rfl
@[simp] theorem zok_130:zOk Tryz.prog 130 = true:=by kernel_rfl
@[simp] theorem whole_130 (cs:List V):whole Tryz.prog 130 cs = cs[0]?:=by kernel_rfl
@[simp] theorem part_130 (cs:List V) (o:Nat):partV Tryz.prog 130 cs o = cs[o]?:=by kernel_rfl
@[simp] theorem cells_131:Tryz.prog.cellsOf 131 = 1:=by kernel_rfl
@[simp] theorem bytes_131:Tryz.prog.bytesOf 131 = 8:=by kernel_rfl
@[simp] theorem zero_131:zeroC Tryz.prog 131 = some [(.raw .nilFunc)]:=by kernel_rfl
@[simp] theorem zok_131:zOk Tryz.prog 131 = true:=by kernel_rfl
@[simp] theorem whole_131 (cs:List V):whole Tryz.prog 131 cs = cs[0]?:=by kernel_rfl
@[simp] theorem part_131 (cs:List V) (o:Nat):partV Tryz.prog 131 cs o = cs[o]?:=by kernel_rfl
@[simp] theorem cells_132:Tryz.prog.cellsOf 132 = 1:=by kernel_rfl
@[simp] theorem bytes_132:Tryz.prog.bytesOf 132 = 8:=by kernel_rfl
@[simp] theorem zero_132:zeroC Tryz.prog 132 = some [(.raw .nilFunc)]:=by kernel_rfl
@[simp] theorem zok_132:zOk Tryz.prog 132 = true:=by kernel_rfl
@[simp] theorem whole_132 (cs:List V):whole Tryz.prog 132 cs = cs[0]?:=by kernel_rfl
@[simp] theorem part_132 (cs:List V) (o:Nat):partV Tryz.prog 132 cs o = cs[o]?:=by kernel_rfl
@[simp] theorem cells_133:Tryz.prog.cellsOf 133 = 1:=by kernel_rfl
@[simp] theorem bytes_133:Tryz.prog.bytesOf 133 = 8:=by kernel_rfl
@[simp] theorem zero_133:zeroC Tryz.prog 133 = some [(.raw .nilFunc)]:=by kernel_rfl
@[simp] theorem zok_133:zOk Tryz.prog 133 = true:=by kernel_rfl
@[simp] theorem whole_133 (cs:List V):whole Tryz.prog 133 cs = if 1≤cs.length then some (.agg (cs.take 1)) else none:=by kernel_rfl
@[simp] theorem part_133 (cs:List V) (o:Nat):partV Tryz.prog 133 cs o = if o + 1≤cs.length then some (.agg ((cs.drop o).take 1)) else none:=by kernel_rfl
@[simp] theorem fld_133_0:fieldP Tryz.prog 133 0 = some (131,0):=by kernel_rfl
@[simp] theorem build_133 (ps:List (Nat × V)):evBuild Tryz.prog 133 ps = if (ps.all fun p=>flatOk p.2) = true then ma1 .agg (fillV (fun i=>[(0,1)][i]?) [(.raw .nilFunc)] ps) else none:=build_of (by kernel_rfl) Tryz.underlying133 (by kernel_rfl) (by kernel_rfl) ps
@[simp] theorem cells_134:Tryz.prog.cellsOf 134 = 1:=by kernel_rfl
@[simp] theorem bytes_134:Tryz.prog.bytesOf 134 = 8:=by kernel_rfl
@[simp] theorem zero_134:zeroC Tryz.prog 134 = some [(.raw .nilFunc)]:=by kernel_rfl
@[simp] theorem zok_134:zOk Tryz.prog 134 = true:=by kernel_rfl
@[simp] theorem whole_134 (cs:List V):whole Tryz.prog 134 cs = if 1≤cs.length then some (.agg (cs.take 1)) else none:=by kernel_rfl
@[simp] theorem part_134 (cs:List V) (o:Nat):partV Tryz.prog 134 cs o = if o + 1≤cs.length then some (.agg ((cs.drop o).take 1)) else none:=by kernel_rfl
@[simp] theorem fld_134_0:fieldP Tryz.prog 134 0 = some (131,0):=by kernel_rfl
@[simp] theorem build_134 (ps:List (Nat × V)):evBuild Tryz.prog 134 ps = if (ps.all fun p=>flatOk p.2) = true then ma1 .agg (fillV (fun i=>[(0,1)][i]?) [(.raw .nilFunc)] ps) else none:=build_of (by kernel_rfl) Tryz.underlying134 (by kernel_rfl) (by kernel_rfl) ps
@[simp] theorem cells_135:Tryz.prog.cellsOf 135 = 1:=by kernel_rfl
@[simp] theorem bytes_135:Tryz.prog.bytesOf 135 = 8:=by kernel_rfl
@[simp] theorem zero_135:zeroC Tryz.prog 135 = some [(.raw .nilFunc)]:=by kernel_rfl
@[simp] theorem zok_135:zOk Tryz.prog 135 = true:=by kernel_rfl
@[simp] theorem whole_135 (cs:List V):whole Tryz.prog 135 cs = cs[0]?:=by kernel_rfl
@[simp] theorem part_135 (cs:List V) (o:Nat):partV Tryz.prog 135 cs o = cs[o]?:=by kernel_rfl
@[simp] theorem cells_136:Tryz.prog.cellsOf 136 = 1:=by kernel_rfl
@[simp] theorem bytes_136:Tryz.prog.bytesOf 136 = 8:=by kernel_rfl
@[simp] theorem zero_136:zeroC Tryz.prog 136 = some [(.raw .nilFunc)]:=by kernel_rfl
@[simp] theorem zok_136:zOk Tryz.prog 136 = true:=by kernel_rfl
@[simp] theorem whole_136 (cs:List V):whole Tryz.prog 136 cs = cs[0]?:=by kernel_rfl
@[simp] theorem part_136 (cs:List V) (o:Nat):partV Tryz.prog 136 cs o = cs[o]?:=by kernel_rfl
@[simp] theorem cells_137:Tryz.prog.cellsOf 137 = 1:=by kernel_rfl
@[simp] theorem bytes_137:Tryz.prog.bytesOf 137 = 8:=by kernel_rfl
@[simp] theorem zero_137:zeroC Tryz.prog 137 = some [(.raw .nilFunc)]:=by kernel_rfl
@[simp] theorem zok_137:zOk Tryz.prog 137 = true:=by kernel_rfl
@[simp] theorem whole_137 (cs:List V):whole Tryz.prog 137 cs = cs[0]?:=by kernel_rfl
@[simp] theorem part_137 (cs:List V) (o:Nat):partV Tryz.prog 137 cs o = cs[o]?:=by kernel_rfl
@[simp] theorem cells_138:Tryz.prog.cellsOf 138 = 1:=by kernel_rfl
@[simp] theorem bytes_138:Tryz.prog.bytesOf 138 = 8:=by kernel_rfl
@[simp] theorem zero_138:zeroC Tryz.prog 138 = some [(.raw .nilFunc)]:=by kernel_rfl
@[simp] theorem zok_138:zOk Tryz.prog 138 = true:=by kernel_rfl
@[simp] theorem whole_138 (cs:List V):whole Tryz.prog 138 cs = cs[0]?:=by kernel_rfl
@[simp] theorem part_138 (cs:List V) (o:Nat):partV Tryz.prog 138 cs o = cs[o]?:=by kernel_rfl
@[simp] theorem cells_139:Tryz.prog.cellsOf 139 = 1:=by kernel_rfl
@[simp] theorem bytes_139:Tryz.prog.bytesOf 139 = 8:=by kernel_rfl
@[simp] theorem zero_139:zeroC Tryz.prog 139 = some [(.raw .nilFunc)]:=by kernel_rfl
@[simp] theorem zok_139:zOk Tryz.prog 139 = true:=by kernel_rfl
@[simp] theorem whole_139 (cs:List V):whole Tryz.prog 139 cs = cs[0]?:=by kernel_rfl
@[simp] theorem part_139 (cs:List V) (o:Nat):partV Tryz.prog 139 cs o = cs[o]?:=by kernel_rfl
@[simp] theorem cells_140:Tryz.prog.cellsOf 140 = 1:=by kernel_rfl
@[simp] theorem bytes_140:Tryz.prog.bytesOf 140 = 8:=by kernel_rfl
@[simp] theorem zero_140:zeroC Tryz.prog 140 = some [(.raw .nilFunc)]:=by kernel_rfl
@[simp] theorem zok_140:zOk Tryz.prog 140 = true:=by kernel_rfl
@[simp] theorem whole_140 (cs:List V):whole Tryz.prog 140 cs = cs[0]?:=by kernel_rfl
@[simp] theorem part_140 (cs:List V) (o:Nat):partV Tryz.prog 140 cs o = cs[o]?:=by kernel_rfl
@[simp] theorem cells_141:Tryz.prog.cellsOf 141 = 1:=by kernel_rfl
@[simp] theorem bytes_141:Tryz.prog.bytesOf 141 = 8:=by kernel_rfl
@[simp] theorem zero_141:zeroC Tryz.prog 141 = some [(.raw .nilFunc)]:=by kernel_rfl
@[simp] theorem zok_141:zOk Tryz.prog 141 = true:=by kernel_rfl
@[simp] theorem whole_141 (cs:List V):whole Tryz.prog 141 cs = cs[0]?:=by kernel_rfl
@[simp] theorem part_141 (cs:List V) (o:Nat):partV Tryz.prog 141 cs o = cs[o]?:=by kernel_rfl
@[simp] theorem cells_142:Tryz.prog.cellsOf 142 = 1:=by kernel_rfl
@[simp] theorem bytes_142:Tryz.prog.bytesOf 142 = 8:=by kernel_rfl
@[simp] theorem zero_142:zeroC Tryz.prog 142 = some [(.raw (.map none))]:=by kernel_rfl
@[simp] theorem zok_142:zOk Tryz.prog 142 = true:=by kernel_rfl
@[simp] theorem whole_142 (cs:List V):whole Tryz.prog 142 cs = cs[0]?:=by kernel_rfl
@[simp] theorem part_142 (cs:List V) (o:Nat):partV Tryz.prog 142 cs o = cs[o]?:=by kernel_rfl
@[simp] theorem cells_143:Tryz.prog.cellsOf 143 = 1:=by kernel_rfl
@[simp] theorem bytes_143:Tryz.prog.bytesOf 143 = 8:=by kernel_rfl
@[simp] theorem zero_143:zeroC Tryz.prog 143 = some [(.raw (.map none))]:=by kernel_rfl
@[simp] theorem zok_143:zOk Tryz.prog 143 = true:=by kernel_rfl
@[simp] theorem whole_143 (cs:List V):whole Tryz.prog 143 cs = cs[0]?:=by kernel_rfl
@[simp] theorem part_143 (cs:List V) (o:Nat):partV Tryz.prog 143 cs o = cs[o]?:=by kernel_rfl
@[simp] theorem cells_144:Tryz.prog.cellsOf 144 = 12:=by kernel_rfl
@[simp] theorem bytes_144:Tryz.prog.bytesOf 144 = 192:=by kernel_rfl
@[simp] theorem zero_144:zeroC Tryz.prog 144 = some [.int .i64 0,.int .i64 0,.int .i64 0,.int .i64 0,.nil,.nil,.nil,.nil,.nil,.nil,(.raw (.map none)),(.raw (.map none))]:=by kernel_rfl
@[simp] theorem zok_144:zOk Tryz.prog 144 = true:=by kernel_rfl
@[simp] theorem whole_144 (cs:List V):whole Tryz.prog 144 cs = if 12≤cs.length then some (.agg (cs.take 12)) else none:=by kernel_rfl
@[simp] theorem part_144 (cs:List V) (o:Nat):partV Tryz.prog 144 cs o = if o + 12≤cs.length then some (.agg ((cs.drop o).take 12)) else none:=by kernel_rfl
@[simp] theorem fld_144_0:fieldP Tryz.prog 144 0 = some (37,0):=by kernel_rfl
@[simp] theorem fld_144_1:fieldP Tryz.prog 144 1 = some (23,9):=by kernel_rfl
@[simp] theorem fld_144_2:fieldP Tryz.prog 144 2 = some (142,10):=by kernel_rfl
@[simp] theorem fld_144_3:fieldP Tryz.prog 144 3 = some (143,11):=by kernel_rfl
@[simp] theorem build_144 (ps:List (Nat × V)):evBuild Tryz.prog 144 ps = if (ps.all fun p=>flatOk p.2) = true then ma1 .agg (fillV (fun i=>[(0,9),(9,1),(10,1),(11,1)][i]?) [.int .i64 0,.int .i64 0,.int .i64 0,.int .i64 0,.nil,.nil,.nil,.nil,.nil,.nil,(.raw (.map none)),(.raw (.map none))] ps) else none:=build_of (by kernel_rfl) Tryz.underlying144 (by kernel_rfl) (by kernel_rfl) ps
@[simp] theorem cells_145:Tryz.prog.cellsOf 145 = 12:=by kernel_rfl
@[simp] theorem bytes_145:Tryz.prog.bytesOf 145 = 192:=by kernel_rfl
@[simp] theorem zero_145:zeroC Tryz.prog 145 = some [.int .i64 0,.int .i64 0,.int .i64 0,.int .i64 0,.nil,.nil,.nil,.nil,.nil,.nil,(.raw (.map none)),(.raw (.map none))]:=by kernel_rfl
@[simp] theorem zok_145:zOk Tryz.prog 145 = true:=by kernel_rfl
@[simp] theorem whole_145 (cs:List V):whole Tryz.prog 145 cs = if 12≤cs.length then some (.agg (cs.take 12)) else none:=by kernel_rfl
@[simp] theorem part_145 (cs:List V) (o:Nat):partV Tryz.prog 145 cs o = if o + 12≤cs.length then some (.agg ((cs.drop o).take 12)) else none:=by kernel_rfl
@[simp] theorem fld_145_0:fieldP Tryz.prog 145 0 = some (37,0):=by kernel_rfl
@[simp] theorem fld_145_1:fieldP Tryz.prog 145 1 = some (23,9):=by kernel_rfl
@[simp] theorem fld_145_2:fieldP Tryz.prog 145 2 = some (142,10):=by kernel_rfl
@[simp] theorem fld_145_3:fieldP Tryz.prog 145 3 = some (143,11):=by kernel_rfl
@[simp] theorem build_145 (ps:List (Nat × V)):evBuild Tryz.prog 145 ps = if (ps.all fun p=>flatOk p.2) = true then ma1 .agg (fillV (fun i=>[(0,9),(9,1),(10,1),(11,1)][i]?) [.int .i64 0,.int .i64 0,.int .i64 0,.int .i64 0,.nil,.nil,.nil,.nil,.nil,.nil,(.raw (.map none)),(.raw (.map none))] ps) else none:=build_of (by kernel_rfl) Tryz.underlying145 (by kernel_rfl) (by kernel_rfl) ps
@[simp] theorem cells_146:Tryz.prog.cellsOf 146 = 1:=by kernel_rfl
@[simp] theorem bytes_146:Tryz.prog.bytesOf 146 = 8:=by kernel_rfl
@[simp] theorem zero_146:zeroC Tryz.prog 146 = some [(.raw .nilFunc)]:=by kernel_rfl
@[simp] theorem zok_146:zOk Tryz.prog 146 = true:=by kernel_rfl
@[simp] theorem whole_146 (cs:List V):whole Tryz.prog 146 cs = cs[0]?:=by kernel_rfl
@[simp] theorem part_146 (cs:List V) (o:Nat):partV Tryz.prog 146 cs o = cs[o]?:=by kernel_rfl
@[simp] theorem cells_147:Tryz.prog.cellsOf 147 = 1:=by kernel_rfl
@[simp] theorem bytes_147:Tryz.prog.bytesOf 147 = 8:=by kernel_rfl
@[simp] theorem zero_147:zeroC Tryz.prog 147 = some [(.raw .nilFunc)]:=by kernel_rfl
@[simp] theorem zok_147:zOk Tryz.prog 147 = true:=by kernel_rfl
@[simp] theorem whole_147 (cs:List V):whole Tryz.prog 147 cs = cs[0]?:=by kernel_rfl
@[simp] theorem part_147 (cs:List V) (o:Nat):partV Tryz.prog 147 cs o = cs[o]?:=by kernel_rfl
@[simp] theorem cells_148:Tryz.prog.cellsOf 148 = 3:=by kernel_rfl
@[simp] theorem bytes_148:Tryz.prog.bytesOf 148 = 24:=by kernel_rfl
@[simp] theorem zero_148:zeroC Tryz.prog 148 = some [.int .i64 0,.int .i64 0,.int .i64 0]:=by kernel_rfl
@[simp] theorem zok_148:zOk Tryz.prog 148 = true:=by kernel_rfl
@[simp] theorem whole_148 (cs:List V):whole Tryz.prog 148 cs = if 3≤cs.length then some (.agg (cs.take 3)) else none:=by kernel_rfl
@[simp] theorem part_148 (cs:List V) (o:Nat):partV Tryz.prog 148 cs o = if o + 3≤cs.length then some (.agg ((cs.drop o).take 3)) else none:=by kernel_rfl
@[simp] theorem elem_148:elemT Tryz.prog 148 = (some ((some 3),3)):=by kernel_rfl
@[simp] theorem cells_149:Tryz.prog.cellsOf 149 = 3:=by kernel_rfl
@[simp] theorem bytes_149:Tryz.prog.bytesOf 149 = 24:=by kernel_rfl
@[simp] theorem zero_149:zeroC Tryz.prog 149 = some [.int .i64 0,.int .i64 0,.int .i64 0]:=by kernel_rfl
@[simp] theorem zok_149:zOk Tryz.prog 149 = true:=by kernel_rfl
@[simp] theorem whole_149 (cs:List V):whole Tryz.prog 149 cs = if 3≤cs.length then some (.agg (cs.take 3)) else none:=by kernel_rfl
@[simp] theorem part_149 (cs:List V) (o:Nat):partV Tryz.prog 149 cs o = if o + 3≤cs.length then some (.agg ((cs.drop o).take 3)) else none:=by kernel_rfl
@[simp] theorem elem_149:elemT Tryz.prog 149 = (some ((some 3),3)):=by kernel_rfl
@[simp] theorem cells_150:Tryz.prog.cellsOf 150 = 1:=by kernel_rfl
@[simp] theorem bytes_150:Tryz.prog.bytesOf 150 = 8:=by kernel_rfl
@[simp] theorem zero_150:zeroC Tryz.prog 150 = some [(.raw .nilFunc)]:=by kernel_rfl
@[simp] theorem zok_150:zOk Tryz.prog 150 = true:=by kernel_rfl
@[simp] theorem whole_150 (cs:List V):whole Tryz.prog 150 cs = cs[0]?:=by kernel_rfl
@[simp] theorem part_150 (cs:List V) (o:Nat):partV Tryz.prog 150 cs o = cs[o]?:=by kernel_rfl
@[simp] theorem cells_151:Tryz.prog.cellsOf 151 = 5:=by kernel_rfl
@[simp] theorem bytes_151:Tryz.prog.bytesOf 151 = 40:=by kernel_rfl
@[simp] theorem zero_151:zeroC Tryz.prog 151 = some [.int .i64 0,.int .i64 0,.int .i64 0,.int .i64 0,.int .i64 0]:=by kernel_rfl
@[simp] theorem zok_151:zOk Tryz.prog 151 = true:=by kernel_rfl
@[simp] theorem whole_151 (cs:List V):whole Tryz.prog 151 cs = if 5≤cs.length then some (.agg (cs.take 5)) else none:=by kernel_rfl
@[simp] theorem part_151 (cs:List V) (o:Nat):partV Tryz.prog 151 cs o = if o + 5≤cs.length then some (.agg ((cs.drop o).take 5)) else none:=by kernel_rfl
@[simp] theorem fld_151_0:fieldP Tryz.prog 151 0 = some (3,0):=by kernel_rfl
@[simp] theorem fld_151_1:fieldP Tryz.prog 151 1 = some (3,1):=by kernel_rfl
@[simp] theorem fld_151_2:fieldP Tryz.prog 151 2 = some (149,2):=by kernel_rfl
@[simp] theorem build_151 (ps:List (Nat × V)):evBuild Tryz.prog 151 ps = if (ps.all fun p=>flatOk p.2) = true then ma1 .agg (fillV (fun i=>[(0,1),(1,1),(2,3)][i]?) [.int .i64 0,.int .i64 0,.int .i64 0,.int .i64 0,.int .i64 0] ps) else none:=build_of (by kernel_rfl) Tryz.underlying151 (by kernel_rfl) (by kernel_rfl) ps
@[simp] theorem cells_152:Tryz.prog.cellsOf 152 = 5:=by kernel_rfl
@[simp] theorem bytes_152:Tryz.prog.bytesOf 152 = 40:=by kernel_rfl
@[simp] theorem zero_152:zeroC Tryz.prog 152 = some [.int .i64 0,.int .i64 0,.int .i64 0,.int .i64 0,.int .i64 0]:=by kernel_rfl
@[simp] theorem zok_152:zOk Tryz.prog 152 = true:=by kernel_rfl
@[simp] theorem whole_152 (cs:List V):whole Tryz.prog 152 cs = if 5≤cs.length then some (.agg (cs.take 5)) else none:=by kernel_rfl
@[simp] theorem part_152 (cs:List V) (o:Nat):partV Tryz.prog 152 cs o = if o + 5≤cs.length then some (.agg ((cs.drop o).take 5)) else none:=by kernel_rfl
@[simp] theorem fld_152_0:fieldP Tryz.prog 152 0 = some (3,0):=by kernel_rfl
@[simp] theorem fld_152_1:fieldP Tryz.prog 152 1 = some (3,1):=by kernel_rfl
@[simp] theorem fld_152_2:fieldP Tryz.prog 152 2 = some (149,2):=by kernel_rfl
@[simp] theorem build_152 (ps:List (Nat × V)):evBuild Tryz.prog 152 ps = if (ps.all fun p=>flatOk p.2) = true then ma1 .agg (fillV (fun i=>[(0,1),(1,1),(2,3)][i]?) [.int .i64 0,.int .i64 0,.int .i64 0,.int .i64 0,.int .i64 0] ps) else none:=build_of (by kernel_rfl) Tryz.underlying152 (by kernel_rfl) (by kernel_rfl) ps
@[simp] theorem cells_153:Tryz.prog.cellsOf 153 = 4:=by kernel_rfl
@[simp] theorem bytes_153:Tryz.prog.bytesOf 153 = 32:=by kernel_rfl
@[simp] theorem zero_153:zeroC Tryz.prog 153 = some [.int .i64 0,.int .i64 0,.int .i64 0,.int .i64 0]:=by kernel_rfl
@[simp] theorem zok_153:zOk Tryz.prog 153 = true:=by kernel_rfl
@[simp] theorem whole_153 (cs:List V):whole Tryz.prog 153 cs = if 4≤cs.length then some (.agg (cs.take 4)) else none:=by kernel_rfl
@[simp] theorem part_153 (cs:List V) (o:Nat):partV Tryz.prog 153 cs o = if o + 4≤cs.length then some (.agg ((cs.drop o).take 4)) else none:=by kernel_rfl
@[simp] theorem fld_153_0:fieldP Tryz.prog 153 0 = some (3,0):=by kernel_rfl
@[simp] theorem fld_153_1:fieldP Tryz.prog 153 1 = some (149,1):=by kernel_rfl
@[simp] theorem build_153 (ps:List (Nat × V)):evBuild Tryz.prog 153 ps = if (ps.all fun p=>flatOk p.2) = true then ma1 .agg (fillV (fun i=>[(0,1),(1,3)][i]?) [.int .i64 0,.int .i64 0,.int .i64 0,.int .i64 0] ps) else none:=build_of (by kernel_rfl) Tryz.underlying153 (by kernel_rfl) (by kernel_rfl) ps
@[simp] theorem cells_154:Tryz.prog.cellsOf 154 = 4:=by kernel_rfl
@[simp] theorem bytes_154:Tryz.prog.bytesOf 154 = 32:=by kernel_rfl
@[simp] theorem zero_154:zeroC Tryz.prog 154 = some [.int .i64 0,.int .i64 0,.int .i64 0,.int .i64 0]:=by kernel_rfl
@[simp] theorem zok_154:zOk Tryz.prog 154 = true:=by kernel_rfl
@[simp] theorem whole_154 (cs:List V):whole Tryz.prog 154 cs = if 4≤cs.length then some (.agg (cs.take 4)) else none:=by kernel_rfl
@[simp] theorem part_154 (cs:List V) (o:Nat):partV Tryz.prog 154 cs o = if o + 4≤cs.length then some (.agg ((cs.drop o).take 4)) else none:=by kernel_rfl
@[simp] theorem fld_154_0:fieldP Tryz.prog 154 0 = some (3,0):=by kernel_rfl
@[simp] theorem fld_154_1:fieldP Tryz.prog 154 1 = some (149,1):=by kernel_rfl
@[simp] theorem build_154 (ps:List (Nat × V)):evBuild Tryz.prog 154 ps = if (ps.all fun p=>flatOk p.2) = true then ma1 .agg (fillV (fun i=>[(0,1),(1,3)][i]?) [.int .i64 0,.int .i64 0,.int .i64 0,.int .i64 0] ps) else none:=build_of (by kernel_rfl) Tryz.underlying154 (by kernel_rfl) (by kernel_rfl) ps
@[simp] theorem cells_155:Tryz.prog.cellsOf 155 = 1:=by kernel_rfl
@[simp] theorem bytes_155:Tryz.prog.bytesOf 155 = 8:=by kernel_rfl
@[simp] theorem zero_155:zeroC Tryz.prog 155 = some [(.raw .nilFunc)]:=by kernel_rfl
@[simp] theorem zok_155:zOk Tryz.prog 155 = true:=by kernel_rfl
@[simp] theorem whole_155 (cs:List V):whole Tryz.prog 155 cs = cs[0]?:=by kernel_rfl
@[simp] theorem part_155 (cs:List V) (o:Nat):partV Tryz.prog 155 cs o = cs[o]?:=by kernel_rfl
@[simp] theorem cells_156:Tryz.prog.cellsOf 156 = 1:=by kernel_rfl
@[simp] theorem bytes_156:Tryz.prog.bytesOf 156 = 8:=by kernel_rfl
@[simp] theorem zero_156:zeroC Tryz.prog 156 = some [(.raw .nilFunc)]:=by kernel_rfl
@[simp] theorem zok_156:zOk Tryz.prog 156 = true:=by kernel_rfl
@[simp] theorem whole_156 (cs:List V):whole Tryz.prog 156 cs = cs[0]?:=by kernel_rfl
@[simp] theorem part_156 (cs:List V) (o:Nat):partV Tryz.prog 156 cs o = cs[o]?:=by kernel_rfl
@[simp] theorem cells_157:Tryz.prog.cellsOf 157 = 1:=by kernel_rfl
@[simp] theorem bytes_157:Tryz.prog.bytesOf 157 = 8:=by kernel_rfl
@[simp] theorem zero_157:zeroC Tryz.prog 157 = some [(.raw .nilFunc)]:=by kernel_rfl
@[simp] theorem zok_157:zOk Tryz.prog 157 = true:=by kernel_rfl
@[simp] theorem whole_157 (cs:List V):whole Tryz.prog 157 cs = cs[0]?:=by kernel_rfl
@[simp] theorem part_157 (cs:List V) (o:Nat):partV Tryz.prog 157 cs o = cs[o]?:=by kernel_rfl
@[simp] theorem cells_158:Tryz.prog.cellsOf 158 = 1:=by kernel_rfl
@[simp] theorem bytes_158:Tryz.prog.bytesOf 158 = 8:=by kernel_rfl
@[simp] theorem zero_158:zeroC Tryz.prog 158 = some [(.raw .nilFunc)]:=by kernel_rfl
@[simp] theorem zok_158:zOk Tryz.prog 158 = true:=by kernel_rfl
@[simp] theorem whole_158 (cs:List V):whole Tryz.prog 158 cs = cs[0]?:=by kernel_rfl
@[simp] theorem part_158 (cs:List V) (o:Nat):partV Tryz.prog 158 cs o = cs[o]?:=by kernel_rfl
@[simp] theorem cells_159:Tryz.prog.cellsOf 159 = 1:=by kernel_rfl
@[simp] theorem bytes_159:Tryz.prog.bytesOf 159 = 8:=by kernel_rfl
@[simp] theorem zero_159:zeroC Tryz.prog 159 = some [(.raw .nilFunc)]:=by kernel_rfl
@[simp] theorem zok_159:zOk Tryz.prog 159 = true:=by kernel_rfl
@[simp] theorem whole_159 (cs:List V):whole Tryz.prog 159 cs = cs[0]?:=by kernel_rfl
@[simp] theorem part_159 (cs:List V) (o:Nat):partV Tryz.prog 159 cs o = cs[o]?:=by kernel_rfl
@[simp] theorem cells_160:Tryz.prog.cellsOf 160 = 1:=by kernel_rfl
@[simp] theorem bytes_160:Tryz.prog.bytesOf 160 = 8:=by kernel_rfl
@[simp] theorem zero_160:zeroC Tryz.prog 160 = some [(.raw .nilFunc)]:=by kernel_rfl
@[simp] theorem zok_160:zOk Tryz.prog 160 = true:=by kernel_rfl
@[simp] theorem whole_160 (cs:List V):whole Tryz.prog 160 cs = cs[0]?:=by kernel_rfl
@[simp] theorem part_160 (cs:List V) (o:Nat):partV Tryz.prog 160 cs o = cs[o]?:=by kernel_rfl
@[simp] theorem cells_162:Tryz.prog.cellsOf 162 = 1:=by kernel_rfl
@[simp] theorem bytes_162:Tryz.prog.bytesOf 162 = 8:=by kernel_rfl
@[simp] theorem zero_162:zeroC Tryz.prog 162 = some [(.raw .nilFunc)]:=by kernel_rfl
@[simp] theorem zok_162:zOk Tryz.prog 162 = true:=by kernel_rfl
@[simp] theorem whole_162 (cs:List V):whole Tryz.prog 162 cs = cs[0]?:=by kernel_rfl
@[simp] theorem part_162 (cs:List V) (o:Nat):partV Tryz.prog 162 cs o = cs[o]?:=by kernel_rfl
@[simp] theorem cells_163:Tryz.prog.cellsOf 163 = 1:=by kernel_rfl
@[simp] theorem bytes_163:Tryz.prog.bytesOf 163 = 8:=by kernel_rfl
@[simp] theorem zero_163:zeroC Tryz.prog 163 = some [(.raw .nilFunc)]:=by kernel_rfl
@[simp] theorem zok_163:zOk Tryz.prog 163 = true:=by kernel_rfl
@[simp] theorem whole_163 (cs:List V):whole Tryz.prog 163 cs = cs[0]?:=by kernel_rfl
@[simp] theorem part_163 (cs:List V) (o:Nat):partV Tryz.prog 163 cs o = cs[o]?:=by kernel_rfl
@[simp] theorem cells_164:Tryz.prog.cellsOf 164 = 1:=by kernel_rfl
@[simp] theorem bytes_164:Tryz.prog.bytesOf 164 = 8:=by kernel_rfl
@[simp] theorem zero_164:zeroC Tryz.prog 164 = some [(.raw .nilFunc)]:=by kernel_rfl
@[simp] theorem zok_164:zOk Tryz.prog 164 = true:=by kernel_rfl
@[simp] theorem whole_164 (cs:List V):whole Tryz.prog 164 cs = cs[0]?:=by kernel_rfl
@[simp] theorem part_164 (cs:List V) (o:Nat):partV Tryz.prog 164 cs o = cs[o]?:=by kernel_rfl
@[simp] theorem cells_165:Tryz.prog.cellsOf 165 = 1:=by kernel_rfl
@[simp] theorem bytes_165:Tryz.prog.bytesOf 165 = 8:=by kernel_rfl
@[simp] theorem zero_165:zeroC Tryz.prog 165 = some [(.raw .nilFunc)]:=by kernel_rfl
@[simp] theorem zok_165:zOk Tryz.prog 165 = true:=by kernel_rfl
@[simp] theorem whole_165 (cs:List V):whole Tryz.prog 165 cs = cs[0]?:=by kernel_rfl
@[simp] theorem part_165 (cs:List V) (o:Nat):partV Tryz.prog 165 cs o = cs[o]?:=by kernel_rfl
@[simp] theorem cells_166:Tryz.prog.cellsOf 166 = 1:=by kernel_rfl
@[simp] theorem bytes_166:Tryz.prog.bytesOf 166 = 8:=by kernel_rfl
@[simp] theorem zero_166:zeroC Tryz.prog 166 = some [(.raw .nilFunc)]:=by kernel_rfl
@[simp] theorem zok_166:zOk Tryz.prog 166 = true:=by kernel_rfl
@[simp] theorem whole_166 (cs:List V):whole Tryz.prog 166 cs = cs[0]?:=by kernel_rfl
@[simp] theorem part_166 (cs:List V) (o:Nat):partV Tryz.prog 166 cs o = cs[o]?:=by kernel_rfl
@[simp] theorem cells_167:Tryz.prog.cellsOf 167 = 1:=by kernel_rfl
@[simp] theorem bytes_167:Tryz.prog.bytesOf 167 = 8:=by kernel_rfl
@[simp] theorem zero_167:zeroC Tryz.prog 167 = some [(.raw .nilFunc)]:=by kernel_rfl
@[simp] theorem zok_167:zOk Tryz.prog 167 = true:=by kernel_rfl
@[simp] theorem whole_167 (cs:List V):whole Tryz.prog 167 cs = cs[0]?:=by kernel_rfl
@[simp] theorem part_167 (cs:List V) (o:Nat):partV Tryz.prog 167 cs o = cs[o]?:=by kernel_rfl
@[simp] theorem cells_168:Tryz.prog.cellsOf 168 = 1:=by kernel_rfl
@[simp] theorem bytes_168:Tryz.prog.bytesOf 168 = 8:=by kernel_rfl
@[simp] theorem zero_168:zeroC Tryz.prog 168 = some [(.raw .nilFunc)]:=by kernel_rfl
@[simp] theorem zok_168:zOk Tryz.prog 168 = true:=by kernel_rfl
@[simp] theorem whole_168 (cs:List V):whole Tryz.prog 168 cs = cs[0]?:=by kernel_rfl
@[simp] theorem part_168 (cs:List V) (o:Nat):partV Tryz.prog 168 cs o = cs[o]?:=by kernel_rfl
@[simp] theorem cells_169:Tryz.prog.cellsOf 169 = 1:=by kernel_rfl
@[simp] theorem bytes_169:Tryz.prog.bytesOf 169 = 8:=by kernel_rfl
@[simp] theorem zero_169:zeroC Tryz.prog 169 = some [(.raw .nilFunc)]:=by kernel_rfl
@[simp] theorem zok_169:zOk Tryz.prog 169 = true:=by kernel_rfl
@[simp] theorem whole_169 (cs:List V):whole Tryz.prog 169 cs = cs[0]?:=by kernel_rfl
@[simp] theorem part_169 (cs:List V) (o:Nat):partV Tryz.prog 169 cs o = cs[o]?:=by kernel_rfl
@[simp] theorem cells_170:Tryz.prog.cellsOf 170 = 1:=by kernel_rfl
@[simp] theorem bytes_170:Tryz.prog.bytesOf 170 = 8:=by kernel_rfl
@[simp] theorem zero_170:zeroC Tryz.prog 170 = some [(.raw .nilFunc)]:=by kernel_rfl
@[simp] theorem zok_170:zOk Tryz.prog 170 = true:=by kernel_rfl
@[simp] theorem whole_170 (cs:List V):whole Tryz.prog 170 cs = cs[0]?:=by kernel_rfl
@[simp] theorem part_170 (cs:List V) (o:Nat):partV Tryz.prog 170 cs o = cs[o]?:=by kernel_rfl
@[simp] theorem cells_171:Tryz.prog.cellsOf 171 = 1:=by kernel_rfl
@[simp] theorem bytes_171:Tryz.prog.bytesOf 171 = 8:=by kernel_rfl
@[simp] theorem zero_171:zeroC Tryz.prog 171 = some [(.raw .nilFunc)]:=by kernel_rfl
@[simp] theorem zok_171:zOk Tryz.prog 171 = true:=by kernel_rfl
@[simp] theorem whole_171 (cs:List V):whole Tryz.prog 171 cs = cs[0]?:=by kernel_rfl
@[simp] theorem part_171 (cs:List V) (o:Nat):partV Tryz.prog 171 cs o = cs[o]?:=by kernel_rfl
@[simp] theorem cells_172:Tryz.prog.cellsOf 172 = 1:=by kernel_rfl
@[simp] theorem bytes_172:Tryz.prog.bytesOf 172 = 8:=by kernel_rfl
@[simp] theorem zero_172:zeroC Tryz.prog 172 = some [(.raw .nilFunc)]:=by kernel_rfl
@[simp] theorem zok_172:zOk Tryz.prog 172 = true:=by kernel_rfl
@[simp] theorem whole_172 (cs:List V):whole Tryz.prog 172 cs = cs[0]?:=by kernel_rfl
@[simp] theorem part_172 (cs:List V) (o:Nat):partV Tryz.prog 172 cs o = cs[o]?:=by kernel_rfl
@[simp] theorem cells_173:Tryz.prog.cellsOf 173 = 1:=by kernel_rfl
@[simp] theorem bytes_173:Tryz.prog.bytesOf 173 = 8:=by kernel_rfl
@[simp] theorem zero_173:zeroC Tryz.prog 173 = some [(.raw .nilFunc)]:=by kernel_rfl
@[simp] theorem zok_173:zOk Tryz.prog 173 = true:=by kernel_rfl
@[simp] theorem whole_173 (cs:List V):whole Tryz.prog 173 cs = cs[0]?:=by kernel_rfl
@[simp] theorem part_173 (cs:List V) (o:Nat):partV Tryz.prog 173 cs o = cs[o]?:=by kernel_rfl
@[simp] theorem cells_175:Tryz.prog.cellsOf 175 = 1:=by kernel_rfl
@[simp] theorem bytes_175:Tryz.prog.bytesOf 175 = 8:=by kernel_rfl
@[simp] theorem zero_175:zeroC Tryz.prog 175 = some [(.raw .nilFunc)]:=by kernel_rfl
@[simp] theorem zok_175:zOk Tryz.prog 175 = true:=by kernel_rfl
@[simp] theorem whole_175 (cs:List V):whole Tryz.prog 175 cs = cs[0]?:=by kernel_rfl
@[simp] theorem part_175 (cs:List V) (o:Nat):partV Tryz.prog 175 cs o = cs[o]?:=by kernel_rfl
@[simp] theorem cells_176:Tryz.prog.cellsOf 176 = 1:=by kernel_rfl
@[simp] theorem bytes_176:Tryz.prog.bytesOf 176 = 8:=by kernel_rfl
@[simp] theorem zero_176:zeroC Tryz.prog 176 = some [(.raw .nilFunc)]:=by kernel_rfl
@[simp] theorem zok_176:zOk Tryz.prog 176 = true:=by kernel_rfl
@[simp] theorem whole_176 (cs:List V):whole Tryz.prog 176 cs = cs[0]?:=by kernel_rfl
@[simp] theorem part_176 (cs:List V) (o:Nat):partV Tryz.prog 176 cs o = cs[o]?:=by kernel_rfl
@[simp] theorem cells_177:Tryz.prog.cellsOf 177 = 1:=by kernel_rfl
@[simp] theorem bytes_177:Tryz.prog.bytesOf 177 = 8:=by kernel_rfl
@[simp] theorem zero_177:zeroC Tryz.prog 177 = some [(.raw .nilFunc)]:=by kernel_rfl
@[simp] theorem zok_177:zOk Tryz.prog 177 = true:=by kernel_rfl
@[simp] theorem whole_177 (cs:List V):whole Tryz.prog 177 cs = cs[0]?:=by kernel_rfl
@[simp] theorem part_177 (cs:List V) (o:Nat):partV Tryz.prog 177 cs o = cs[o]?:=by kernel_rfl
@[simp] theorem cells_178:Tryz.prog.cellsOf 178 = 1:=by kernel_rfl
@[simp] theorem bytes_178:Tryz.prog.bytesOf 178 = 8:=by kernel_rfl
@[simp] theorem zero_178:zeroC Tryz.prog 178 = some [(.raw .nilFunc)]:=by kernel_rfl
@[simp] theorem zok_178:zOk Tryz.prog 178 = true:=by kernel_rfl
@[simp] theorem whole_178 (cs:List V):whole Tryz.prog 178 cs = cs[0]?:=by kernel_rfl
@[simp] theorem part_178 (cs:List V) (o:Nat):partV Tryz.prog 178 cs o = cs[o]?:=by kernel_rfl
@[simp] theorem cells_179:Tryz.prog.cellsOf 179 = 1:=by kernel_rfl
@[simp] theorem bytes_179:Tryz.prog.bytesOf 179 = 8:=by kernel_rfl
@[simp] theorem zero_179:zeroC Tryz.prog 179 = some [(.raw .nilFunc)]:=by kernel_rfl
@[simp] theorem zok_179:zOk Tryz.prog 179 = true:=by kernel_rfl
@[simp] theorem whole_179 (cs:List V):whole Tryz.prog 179 cs = cs[0]?:=by kernel_rfl
@[simp] theorem part_179 (cs:List V) (o:Nat):partV Tryz.prog 179 cs o = cs[o]?:=by kernel_rfl
@[simp] theorem cells_180:Tryz.prog.cellsOf 180 = 1:=by kernel_rfl
@[simp] theorem bytes_180:Tryz.prog.bytesOf 180 = 8:=by kernel_rfl
@[simp] theorem zero_180:zeroC Tryz.prog 180 = some [(.raw .nilFunc)]:=by kernel_rfl
@[simp] theorem zok_180:zOk Tryz.prog 180 = true:=by kernel_rfl
@[simp] theorem whole_180 (cs:List V):whole Tryz.prog 180 cs = cs[0]?:=by kernel_rfl
@[simp] theorem part_180 (cs:List V) (o:Nat):partV Tryz.prog 180 cs o = cs[o]?:=by kernel_rfl
@[simp] theorem cells_181:Tryz.prog.cellsOf 181 = 1:=by kernel_rfl
@[simp] theorem bytes_181:Tryz.prog.bytesOf 181 = 8:=by kernel_rfl
@[simp] theorem zero_181:zeroC Tryz.prog 181 = some [(.raw .nilFunc)]:=by kernel_rfl
@[simp] theorem zok_181:zOk Tryz.prog 181 = true:=by kernel_rfl
@[simp] theorem whole_181 (cs:List V):whole Tryz.prog 181 cs = cs[0]?:=by kernel_rfl
@[simp] theorem part_181 (cs:List V) (o:Nat):partV Tryz.prog 181 cs o = cs[o]?:=by kernel_rfl
@[simp] theorem cells_183:Tryz.prog.cellsOf 183 = 1:=by kernel_rfl
@[simp] theorem bytes_183:Tryz.prog.bytesOf 183 = 8:=by kernel_rfl
@[simp] theorem zero_183:zeroC Tryz.prog 183 = some [(.raw (.pointer none))]:=by kernel_rfl
@[simp] theorem zok_183:zOk Tryz.prog 183 = true:=by kernel_rfl
@[simp] theorem whole_183 (cs:List V):whole Tryz.prog 183 cs = cs[0]?:=by kernel_rfl
@[simp] theorem part_183 (cs:List V) (o:Nat):partV Tryz.prog 183 cs o = cs[o]?:=by kernel_rfl
@[simp] theorem cells_184:Tryz.prog.cellsOf 184 = 1:=by kernel_rfl
@[simp] theorem bytes_184:Tryz.prog.bytesOf 184 = 8:=by kernel_rfl
@[simp] theorem zero_184:zeroC Tryz.prog 184 = some [(.raw .nilFunc)]:=by kernel_rfl
@[simp] theorem zok_184:zOk Tryz.prog 184 = true:=by kernel_rfl
@[simp] theorem whole_184 (cs:List V):whole Tryz.prog 184 cs = cs[0]?:=by kernel_rfl
@[simp] theorem part_184 (cs:List V) (o:Nat):partV Tryz.prog 184 cs o = cs[o]?:=by kernel_rfl
@[simp] theorem cells_185:Tryz.prog.cellsOf 185 = 1:=by kernel_rfl
@[simp] theorem bytes_185:Tryz.prog.bytesOf 185 = 8:=by kernel_rfl
@[simp] theorem zero_185:zeroC Tryz.prog 185 = some [(.raw .nilFunc)]:=by kernel_rfl
@[simp] theorem zok_185:zOk Tryz.prog 185 = true:=by kernel_rfl
@[simp] theorem whole_185 (cs:List V):whole Tryz.prog 185 cs = cs[0]?:=by kernel_rfl
@[simp] theorem part_185 (cs:List V) (o:Nat):partV Tryz.prog 185 cs o = cs[o]?:=by kernel_rfl
@[simp] theorem cells_186:Tryz.prog.cellsOf 186 = 1:=by kernel_rfl
@[simp] theorem bytes_186:Tryz.prog.bytesOf 186 = 8:=by kernel_rfl
@[simp] theorem zero_186:zeroC Tryz.prog 186 = some [(.raw .nilFunc)]:=by kernel_rfl
@[simp] theorem zok_186:zOk Tryz.prog 186 = true:=by kernel_rfl
@[simp] theorem whole_186 (cs:List V):whole Tryz.prog 186 cs = cs[0]?:=by kernel_rfl
@[simp] theorem part_186 (cs:List V) (o:Nat):partV Tryz.prog 186 cs o = cs[o]?:=by kernel_rfl
@[simp] theorem cells_187:Tryz.prog.cellsOf 187 = 1:=by kernel_rfl
@[simp] theorem bytes_187:Tryz.prog.bytesOf 187 = 8:=by kernel_rfl
@[simp] theorem zero_187:zeroC Tryz.prog 187 = some [(.raw .nilFunc)]:=by kernel_rfl
@[simp] theorem zok_187:zOk Tryz.prog 187 = true:=by kernel_rfl
@[simp] theorem whole_187 (cs:List V):whole Tryz.prog 187 cs = cs[0]?:=by kernel_rfl
@[simp] theorem part_187 (cs:List V) (o:Nat):partV Tryz.prog 187 cs o = cs[o]?:=by kernel_rfl
@[simp] theorem cells_188:Tryz.prog.cellsOf 188 = 1:=by kernel_rfl
@[simp] theorem bytes_188:Tryz.prog.bytesOf 188 = 8:=by kernel_rfl
@[simp] theorem zero_188:zeroC Tryz.prog 188 = some [(.raw .nilFunc)]:=by kernel_rfl
@[simp] theorem zok_188:zOk Tryz.prog 188 = true:=by kernel_rfl
@[simp] theorem whole_188 (cs:List V):whole Tryz.prog 188 cs = cs[0]?:=by kernel_rfl
@[simp] theorem part_188 (cs:List V) (o:Nat):partV Tryz.prog 188 cs o = cs[o]?:=by kernel_rfl
@[simp] theorem cells_189:Tryz.prog.cellsOf 189 = 1:=by kernel_rfl
@[simp] theorem bytes_189:Tryz.prog.bytesOf 189 = 8:=by kernel_rfl
@[simp] theorem zero_189:zeroC Tryz.prog 189 = some [(.raw .nilFunc)]:=by kernel_rfl
@[simp] theorem zok_189:zOk Tryz.prog 189 = true:=by kernel_rfl
@[simp] theorem whole_189 (cs:List V):whole Tryz.prog 189 cs = cs[0]?:=by kernel_rfl
@[simp] theorem part_189 (cs:List V) (o:Nat):partV Tryz.prog 189 cs o = cs[o]?:=by kernel_rfl
@[simp] theorem cells_190:Tryz.prog.cellsOf 190 = 4:=by kernel_rfl
@[simp] theorem bytes_190:Tryz.prog.bytesOf 190 = 40:=by kernel_rfl
@[simp] theorem whole_190 (cs:List V):whole Tryz.prog 190 cs = if 4≤cs.length then some (.agg (cs.take 4)) else none:=by kernel_rfl
@[simp] theorem part_190 (cs:List V) (o:Nat):partV Tryz.prog 190 cs o = if o + 4≤cs.length then some (.agg ((cs.drop o).take 4)) else none:=by kernel_rfl
@[simp] theorem fld_190_0:fieldP Tryz.prog 190 0 = some (17,0):=by kernel_rfl
@[simp] theorem fld_190_1:fieldP Tryz.prog 190 1 = some (17,1):=by kernel_rfl
@[simp] theorem fld_190_2:fieldP Tryz.prog 190 2 = some (17,2):=by kernel_rfl
@[simp] theorem fld_190_3:fieldP Tryz.prog 190 3 = some (9,3):=by kernel_rfl
@[simp] theorem cells_191:Tryz.prog.cellsOf 191 = 4:=by kernel_rfl
@[simp] theorem bytes_191:Tryz.prog.bytesOf 191 = 40:=by kernel_rfl
@[simp] theorem whole_191 (cs:List V):whole Tryz.prog 191 cs = if 4≤cs.length then some (.agg (cs.take 4)) else none:=by kernel_rfl
@[simp] theorem part_191 (cs:List V) (o:Nat):partV Tryz.prog 191 cs o = if o + 4≤cs.length then some (.agg ((cs.drop o).take 4)) else none:=by kernel_rfl
@[simp] theorem fld_191_0:fieldP Tryz.prog 191 0 = some (17,0):=by kernel_rfl
@[simp] theorem fld_191_1:fieldP Tryz.prog 191 1 = some (17,1):=by kernel_rfl
@[simp] theorem fld_191_2:fieldP Tryz.prog 191 2 = some (17,2):=by kernel_rfl
@[simp] theorem fld_191_3:fieldP Tryz.prog 191 3 = some (9,3):=by kernel_rfl
@[simp] theorem cells_195:Tryz.prog.cellsOf 195 = 1:=by kernel_rfl
@[simp] theorem bytes_195:Tryz.prog.bytesOf 195 = 4:=by kernel_rfl
@[simp] theorem zero_195:zeroC Tryz.prog 195 = some [.int .u32 0]:=by kernel_rfl
@[simp] theorem zok_195:zOk Tryz.prog 195 = true:=by kernel_rfl
@[simp] theorem whole_195 (cs:List V):whole Tryz.prog 195 cs = cs[0]?:=by kernel_rfl
@[simp] theorem part_195 (cs:List V) (o:Nat):partV Tryz.prog 195 cs o = cs[o]?:=by kernel_rfl
@[simp] theorem cells_196:Tryz.prog.cellsOf 196 = 1:=by kernel_rfl
@[simp] theorem bytes_196:Tryz.prog.bytesOf 196 = 1:=by kernel_rfl
@[simp] theorem zero_196:zeroC Tryz.prog 196 = some [.int .u8 0]:=by kernel_rfl
@[simp] theorem zok_196:zOk Tryz.prog 196 = true:=by kernel_rfl
@[simp] theorem whole_196 (cs:List V):whole Tryz.prog 196 cs = cs[0]?:=by kernel_rfl
@[simp] theorem part_196 (cs:List V) (o:Nat):partV Tryz.prog 196 cs o = cs[o]?:=by kernel_rfl
@[simp] theorem cells_197:Tryz.prog.cellsOf 197 = 1:=by kernel_rfl
@[simp] theorem bytes_197:Tryz.prog.bytesOf 197 = 1:=by kernel_rfl
@[simp] theorem zero_197:zeroC Tryz.prog 197 = some [.int .u8 0]:=by kernel_rfl
@[simp] theorem zok_197:zOk Tryz.prog 197 = true:=by kernel_rfl
@[simp] theorem whole_197 (cs:List V):whole Tryz.prog 197 cs = cs[0]?:=by kernel_rfl
@[simp] theorem part_197 (cs:List V) (o:Nat):partV Tryz.prog 197 cs o = cs[o]?:=by kernel_rfl
@[simp] theorem cells_198:Tryz.prog.cellsOf 198 = 1:=by kernel_rfl
@[simp] theorem bytes_198:Tryz.prog.bytesOf 198 = 8:=by kernel_rfl
@[simp] theorem zero_198:zeroC Tryz.prog 198 = some [(.raw .nilFunc)]:=by kernel_rfl
@[simp] theorem zok_198:zOk Tryz.prog 198 = true:=by kernel_rfl
@[simp] theorem whole_198 (cs:List V):whole Tryz.prog 198 cs = cs[0]?:=by kernel_rfl
@[simp] theorem part_198 (cs:List V) (o:Nat):partV Tryz.prog 198 cs o = cs[o]?:=by kernel_rfl
@[simp] theorem cells_199:Tryz.prog.cellsOf 199 = 1:=by kernel_rfl
@[simp] theorem bytes_199:Tryz.prog.bytesOf 199 = 8:=by kernel_rfl
@[simp] theorem zero_199:zeroC Tryz.prog 199 = some [(.raw (.pointer none))]:=by kernel_rfl
@[simp] theorem zok_199:zOk Tryz.prog 199 = true:=by kernel_rfl
@[simp] theorem whole_199 (cs:List V):whole Tryz.prog 199 cs = cs[0]?:=by kernel_rfl
@[simp] theorem part_199 (cs:List V) (o:Nat):partV Tryz.prog 199 cs o = cs[o]?:=by kernel_rfl
@[simp] theorem cells_200:Tryz.prog.cellsOf 200 = 1:=by kernel_rfl
@[simp] theorem bytes_200:Tryz.prog.bytesOf 200 = 4:=by kernel_rfl
@[simp] theorem zero_200:zeroC Tryz.prog 200 = some [.int .i32 0]:=by kernel_rfl
@[simp] theorem zok_200:zOk Tryz.prog 200 = true:=by kernel_rfl
@[simp] theorem whole_200 (cs:List V):whole Tryz.prog 200 cs = cs[0]?:=by kernel_rfl
@[simp] theorem part_200 (cs:List V) (o:Nat):partV Tryz.prog 200 cs o = cs[o]?:=by kernel_rfl
@[simp] theorem cells_201:Tryz.prog.cellsOf 201 = 1:=by kernel_rfl
@[simp] theorem bytes_201:Tryz.prog.bytesOf 201 = 4:=by kernel_rfl
@[simp] theorem zero_201:zeroC Tryz.prog 201 = some [.int .i32 0]:=by kernel_rfl
@[simp] theorem zok_201:zOk Tryz.prog 201 = true:=by kernel_rfl
@[simp] theorem whole_201 (cs:List V):whole Tryz.prog 201 cs = cs[0]?:=by kernel_rfl
@[simp] theorem part_201 (cs:List V) (o:Nat):partV Tryz.prog 201 cs o = cs[o]?:=by kernel_rfl
@[simp] theorem cells_202:Tryz.prog.cellsOf 202 = 11:=by kernel_rfl
@[simp] theorem bytes_202:Tryz.prog.bytesOf 202 = 48:=by kernel_rfl
@[simp] theorem zero_202:zeroC Tryz.prog 202 = some [.int .u64 0,.int .u64 0,.int .u32 0,.int .u8 0,.int .u8 0,.int .u8 0,.int .u8 0,(.raw .nilFunc),(.raw (.pointer none)),.int .i32 0,.int .i32 0]:=by kernel_rfl
@[simp] theorem zok_202:zOk Tryz.prog 202 = true:=by kernel_rfl
@[simp] theorem whole_202 (cs:List V):whole Tryz.prog 202 cs = if 11≤cs.length then some (.agg (cs.take 11)) else none:=by kernel_rfl
@[simp] theorem part_202 (cs:List V) (o:Nat):partV Tryz.prog 202 cs o = if o + 11≤cs.length then some (.agg ((cs.drop o).take 11)) else none:=by kernel_rfl
@[simp] theorem fld_202_0:fieldP Tryz.prog 202 0 = some (12,0):=by kernel_rfl
@[simp] theorem fld_202_1:fieldP Tryz.prog 202 1 = some (12,1):=by kernel_rfl
@[simp] theorem fld_202_2:fieldP Tryz.prog 202 2 = some (195,2):=by kernel_rfl
@[simp] theorem fld_202_3:fieldP Tryz.prog 202 3 = some (196,3):=by kernel_rfl
@[simp] theorem fld_202_4:fieldP Tryz.prog 202 4 = some (5,4):=by kernel_rfl
@[simp] theorem fld_202_5:fieldP Tryz.prog 202 5 = some (5,5):=by kernel_rfl
@[simp] theorem fld_202_6:fieldP Tryz.prog 202 6 = some (197,6):=by kernel_rfl
@[simp] theorem fld_202_7:fieldP Tryz.prog 202 7 = some (198,7):=by kernel_rfl
@[simp] theorem fld_202_8:fieldP Tryz.prog 202 8 = some (199,8):=by kernel_rfl
@[simp] theorem fld_202_9:fieldP Tryz.prog 202 9 = some (200,9):=by kernel_rfl
@[simp] theorem fld_202_10:fieldP Tryz.prog 202 10 = some (201,10):=by kernel_rfl
@[simp] theorem build_202 (ps:List (Nat × V)):evBuild Tryz.prog 202 ps = if (ps.all fun p=>flatOk p.2) = true then ma1 .agg (fillV (fun i=>[(0,1),(1,1),(2,1),(3,1),(4,1),(5,1),(6,1),(7,1),(8,1),(9,1),(10,1)][i]?) [.int .u64 0,.int .u64 0,.int .u32 0,.int .u8 0,.int .u8 0,.int .u8 0,.int .u8 0,(.raw .nilFunc),(.raw (.pointer none)),.int .i32 0,.int .i32 0] ps) else none:=build_of (by kernel_rfl) Tryz.underlying202 (by kernel_rfl) (by kernel_rfl) ps
@[simp] theorem cells_203:Tryz.prog.cellsOf 203 = 11:=by kernel_rfl
@[simp] theorem bytes_203:Tryz.prog.bytesOf 203 = 48:=by kernel_rfl
@[simp] theorem zero_203:zeroC Tryz.prog 203 = some [.int .u64 0,.int .u64 0,.int .u32 0,.int .u8 0,.int .u8 0,.int .u8 0,.int .u8 0,(.raw .nilFunc),(.raw (.pointer none)),.int .i32 0,.int .i32 0]:=by kernel_rfl
@[simp] theorem zok_203:zOk Tryz.prog 203 = true:=by kernel_rfl
@[simp] theorem whole_203 (cs:List V):whole Tryz.prog 203 cs = if 11≤cs.length then some (.agg (cs.take 11)) else none:=by kernel_rfl
@[simp] theorem part_203 (cs:List V) (o:Nat):partV Tryz.prog 203 cs o = if o + 11≤cs.length then some (.agg ((cs.drop o).take 11)) else none:=by kernel_rfl
@[simp] theorem fld_203_0:fieldP Tryz.prog 203 0 = some (12,0):=by kernel_rfl
@[simp] theorem fld_203_1:fieldP Tryz.prog 203 1 = some (12,1):=by kernel_rfl
@[simp] theorem fld_203_2:fieldP Tryz.prog 203 2 = some (195,2):=by kernel_rfl
@[simp] theorem fld_203_3:fieldP Tryz.prog 203 3 = some (196,3):=by kernel_rfl
@[simp] theorem fld_203_4:fieldP Tryz.prog 203 4 = some (5,4):=by kernel_rfl
@[simp] theorem fld_203_5:fieldP Tryz.prog 203 5 = some (5,5):=by kernel_rfl
@[simp] theorem fld_203_6:fieldP Tryz.prog 203 6 = some (197,6):=by kernel_rfl
@[simp] theorem fld_203_7:fieldP Tryz.prog 203 7 = some (198,7):=by kernel_rfl
@[simp] theorem fld_203_8:fieldP Tryz.prog 203 8 = some (199,8):=by kernel_rfl
@[simp] theorem fld_203_9:fieldP Tryz.prog 203 9 = some (200,9):=by kernel_rfl
@[simp] theorem fld_203_10:fieldP Tryz.prog 203 10 = some (201,10):=by kernel_rfl
@[simp] theorem build_203 (ps:List (Nat × V)):evBuild Tryz.prog 203 ps = if (ps.all fun p=>flatOk p.2) = true then ma1 .agg (fillV (fun i=>[(0,1),(1,1),(2,1),(3,1),(4,1),(5,1),(6,1),(7,1),(8,1),(9,1),(10,1)][i]?) [.int .u64 0,.int .u64 0,.int .u32 0,.int .u8 0,.int .u8 0,.int .u8 0,.int .u8 0,(.raw .nilFunc),(.raw (.pointer none)),.int .i32 0,.int .i32 0] ps) else none:=build_of (by kernel_rfl) Tryz.underlying203 (by kernel_rfl) (by kernel_rfl) ps
@[simp] theorem cells_204:Tryz.prog.cellsOf 204 = 1:=by kernel_rfl
@[simp] theorem bytes_204:Tryz.prog.bytesOf 204 = 8:=by kernel_rfl
@[simp] theorem zero_204:zeroC Tryz.prog 204 = some [(.raw (.pointer none))]:=by kernel_rfl
@[simp] theorem zok_204:zOk Tryz.prog 204 = true:=by kernel_rfl
@[simp] theorem whole_204 (cs:List V):whole Tryz.prog 204 cs = cs[0]?:=by kernel_rfl
@[simp] theorem part_204 (cs:List V) (o:Nat):partV Tryz.prog 204 cs o = cs[o]?:=by kernel_rfl
end Go.Proofs.Tryz.Op
