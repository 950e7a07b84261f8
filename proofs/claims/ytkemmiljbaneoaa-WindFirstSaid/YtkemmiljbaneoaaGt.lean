/- What the seat's types come to. No condition. -/
import Derived.Test.YtkemmiljbaneoaaChecked
import Derived.Test.YtkemmiljbaneoaaSx
namespace Go.Proofs.Try.Op
open Go Go.Pg
theorem build_of {P : Program} {T : TypeId} {z : List V} {fs : Array Field} {tab : List (Nat × Nat)} (hz : zeroC P T = some z) (hu : P.underlying T = some (.struct fs)) (hi : (fs.all fun f => (P.info? f.type).isSome) = true) (ht : fs.toList.map (fun f => (f.offset, P.cellsOf f.type)) = tab) (ps : List (Nat × V)) :
    evBuild P T ps = if (ps.all fun p => flatOk p.2) = true then ma1 .agg (fillV (fun i => tab[i]?) z ps) else none := by
  have e : (fun i : Nat => (fs[i]?).map fun (f : Field) => (f.offset, P.cellsOf f.type)) = fun i => tab[i]? := by
    funext i
    rw [← ht, List.getElem?_map]
    simp
  unfold evBuild
  rw [hz, hu]
  simp only [hi, and_true, e]
  cases fillV (fun i => tab[i]?) z ps <;> rfl
@[simp] theorem cells_1 : Try.prog.cellsOf 1 = 1 := by kernel_rfl
@[simp] theorem bytes_1 : Try.prog.bytesOf 1 = 8 := by kernel_rfl
@[simp] theorem zero_1 : zeroC Try.prog 1 = some [(.raw .nilFunc)] := by kernel_rfl
@[simp] theorem zok_1 : zOk Try.prog 1 = true := by kernel_rfl
@[simp] theorem whole_1 (cs : List V) : whole Try.prog 1 cs = cs[0]? := by kernel_rfl
@[simp] theorem part_1 (cs : List V) (o : Nat) : partV Try.prog 1 cs o = cs[o]? := by kernel_rfl
@[simp] theorem cells_2 : Try.prog.cellsOf 2 = 1 := by kernel_rfl
@[simp] theorem bytes_2 : Try.prog.bytesOf 2 = 8 := by kernel_rfl
@[simp] theorem zero_2 : zeroC Try.prog 2 = some [.int .i64 0] := by kernel_rfl
@[simp] theorem zok_2 : zOk Try.prog 2 = true := by kernel_rfl
@[simp] theorem whole_2 (cs : List V) : whole Try.prog 2 cs = cs[0]? := by kernel_rfl
@[simp] theorem part_2 (cs : List V) (o : Nat) : partV Try.prog 2 cs o = cs[o]? := by kernel_rfl
@[simp] theorem cells_3 : Try.prog.cellsOf 3 = 1 := by kernel_rfl
@[simp] theorem bytes_3 : Try.prog.bytesOf 3 = 8 := by kernel_rfl
@[simp] theorem zero_3 : zeroC Try.prog 3 = some [.int .i64 0] := by kernel_rfl
@[simp] theorem zok_3 : zOk Try.prog 3 = true := by kernel_rfl
@[simp] theorem whole_3 (cs : List V) : whole Try.prog 3 cs = cs[0]? := by kernel_rfl
@[simp] theorem part_3 (cs : List V) (o : Nat) : partV Try.prog 3 cs o = cs[o]? := by kernel_rfl
@[simp] theorem cells_4 : Try.prog.cellsOf 4 = 1 := by kernel_rfl
@[simp] theorem bytes_4 : Try.prog.bytesOf 4 = 1 := by kernel_rfl
@[simp] theorem zero_4 : zeroC Try.prog 4 = some [.bool false] := by kernel_rfl
@[simp] theorem zok_4 : zOk Try.prog 4 = true := by kernel_rfl
@[simp] theorem whole_4 (cs : List V) : whole Try.prog 4 cs = cs[0]? := by kernel_rfl
@[simp] theorem part_4 (cs : List V) (o : Nat) : partV Try.prog 4 cs o = cs[o]? := by kernel_rfl
@[simp] theorem isB_4 : boolT Try.prog 4 = true := by kernel_rfl
@[simp] theorem cells_5 : Try.prog.cellsOf 5 = 1 := by kernel_rfl
@[simp] theorem bytes_5 : Try.prog.bytesOf 5 = 1 := by kernel_rfl
@[simp] theorem zero_5 : zeroC Try.prog 5 = some [.int .u8 0] := by kernel_rfl
@[simp] theorem zok_5 : zOk Try.prog 5 = true := by kernel_rfl
@[simp] theorem whole_5 (cs : List V) : whole Try.prog 5 cs = cs[0]? := by kernel_rfl
@[simp] theorem part_5 (cs : List V) (o : Nat) : partV Try.prog 5 cs o = cs[o]? := by kernel_rfl
@[simp] theorem cells_6 : Try.prog.cellsOf 6 = 1 := by kernel_rfl
@[simp] theorem bytes_6 : Try.prog.bytesOf 6 = 1 := by kernel_rfl
@[simp] theorem zero_6 : zeroC Try.prog 6 = some [.int .u8 0] := by kernel_rfl
@[simp] theorem zok_6 : zOk Try.prog 6 = true := by kernel_rfl
@[simp] theorem whole_6 (cs : List V) : whole Try.prog 6 cs = cs[0]? := by kernel_rfl
@[simp] theorem part_6 (cs : List V) (o : Nat) : partV Try.prog 6 cs o = cs[o]? := by kernel_rfl
@[simp] theorem cells_7 : Try.prog.cellsOf 7 = 4 := by kernel_rfl
@[simp] theorem bytes_7 : Try.prog.bytesOf 7 = 24 := by kernel_rfl
@[simp] theorem zero_7 : zeroC Try.prog 7 = some [.int .i64 0, .int .i64 0, .bool false, .int .u8 0] := by kernel_rfl
@[simp] theorem zok_7 : zOk Try.prog 7 = true := by kernel_rfl
@[simp] theorem whole_7 (cs : List V) : whole Try.prog 7 cs = if 4 ≤ cs.length then some (.agg (cs.take 4)) else none := by kernel_rfl
@[simp] theorem part_7 (cs : List V) (o : Nat) : partV Try.prog 7 cs o = if o + 4 ≤ cs.length then some (.agg ((cs.drop o).take 4)) else none := by kernel_rfl
@[simp] theorem fld_7_0 : fieldP Try.prog 7 0 = some (2, 0) := by kernel_rfl
@[simp] theorem fld_7_1 : fieldP Try.prog 7 1 = some (3, 1) := by kernel_rfl
@[simp] theorem fld_7_2 : fieldP Try.prog 7 2 = some (4, 2) := by kernel_rfl
@[simp] theorem fld_7_3 : fieldP Try.prog 7 3 = some (6, 3) := by kernel_rfl
@[simp] theorem build_7 (ps : List (Nat × V)) : evBuild Try.prog 7 ps = if (ps.all fun p => flatOk p.2) = true then ma1 .agg (fillV (fun i => [(0, 1), (1, 1), (2, 1), (3, 1)][i]?) [.int .i64 0, .int .i64 0, .bool false, .int .u8 0] ps) else none := build_of (by kernel_rfl) Try.underlying7 (by kernel_rfl) (by kernel_rfl) ps
@[simp] theorem cells_8 : Try.prog.cellsOf 8 = 4 := by kernel_rfl
@[simp] theorem bytes_8 : Try.prog.bytesOf 8 = 24 := by kernel_rfl
@[simp] theorem zero_8 : zeroC Try.prog 8 = some [.int .i64 0, .int .i64 0, .bool false, .int .u8 0] := by kernel_rfl
@[simp] theorem zok_8 : zOk Try.prog 8 = true := by kernel_rfl
@[simp] theorem whole_8 (cs : List V) : whole Try.prog 8 cs = if 4 ≤ cs.length then some (.agg (cs.take 4)) else none := by kernel_rfl
@[simp] theorem part_8 (cs : List V) (o : Nat) : partV Try.prog 8 cs o = if o + 4 ≤ cs.length then some (.agg ((cs.drop o).take 4)) else none := by kernel_rfl
@[simp] theorem fld_8_0 : fieldP Try.prog 8 0 = some (2, 0) := by kernel_rfl
@[simp] theorem fld_8_1 : fieldP Try.prog 8 1 = some (3, 1) := by kernel_rfl
@[simp] theorem fld_8_2 : fieldP Try.prog 8 2 = some (4, 2) := by kernel_rfl
@[simp] theorem fld_8_3 : fieldP Try.prog 8 3 = some (6, 3) := by kernel_rfl
@[simp] theorem build_8 (ps : List (Nat × V)) : evBuild Try.prog 8 ps = if (ps.all fun p => flatOk p.2) = true then ma1 .agg (fillV (fun i => [(0, 1), (1, 1), (2, 1), (3, 1)][i]?) [.int .i64 0, .int .i64 0, .bool false, .int .u8 0] ps) else none := build_of (by kernel_rfl) Try.underlying8 (by kernel_rfl) (by kernel_rfl) ps
@[simp] theorem cells_9 : Try.prog.cellsOf 9 = 1 := by kernel_rfl
@[simp] theorem bytes_9 : Try.prog.bytesOf 9 = 16 := by kernel_rfl
@[simp] theorem whole_9 (cs : List V) : whole Try.prog 9 cs = cs[0]? := by kernel_rfl
@[simp] theorem part_9 (cs : List V) (o : Nat) : partV Try.prog 9 cs o = cs[o]? := by kernel_rfl
@[simp] theorem cells_10 : Try.prog.cellsOf 10 = 1 := by kernel_rfl
@[simp] theorem bytes_10 : Try.prog.bytesOf 10 = 16 := by kernel_rfl
@[simp] theorem whole_10 (cs : List V) : whole Try.prog 10 cs = cs[0]? := by kernel_rfl
@[simp] theorem part_10 (cs : List V) (o : Nat) : partV Try.prog 10 cs o = cs[o]? := by kernel_rfl
@[simp] theorem cells_11 : Try.prog.cellsOf 11 = 1 := by kernel_rfl
@[simp] theorem bytes_11 : Try.prog.bytesOf 11 = 16 := by kernel_rfl
@[simp] theorem whole_11 (cs : List V) : whole Try.prog 11 cs = cs[0]? := by kernel_rfl
@[simp] theorem part_11 (cs : List V) (o : Nat) : partV Try.prog 11 cs o = cs[o]? := by kernel_rfl
@[simp] theorem cells_12 : Try.prog.cellsOf 12 = 1 := by kernel_rfl
@[simp] theorem bytes_12 : Try.prog.bytesOf 12 = 8 := by kernel_rfl
@[simp] theorem zero_12 : zeroC Try.prog 12 = some [.int .u64 0] := by kernel_rfl
@[simp] theorem zok_12 : zOk Try.prog 12 = true := by kernel_rfl
@[simp] theorem whole_12 (cs : List V) : whole Try.prog 12 cs = cs[0]? := by kernel_rfl
@[simp] theorem part_12 (cs : List V) (o : Nat) : partV Try.prog 12 cs o = cs[o]? := by kernel_rfl
@[simp] theorem cells_13 : Try.prog.cellsOf 13 = 2 := by kernel_rfl
@[simp] theorem bytes_13 : Try.prog.bytesOf 13 = 24 := by kernel_rfl
@[simp] theorem whole_13 (cs : List V) : whole Try.prog 13 cs = if 2 ≤ cs.length then some (.agg (cs.take 2)) else none := by kernel_rfl
@[simp] theorem part_13 (cs : List V) (o : Nat) : partV Try.prog 13 cs o = if o + 2 ≤ cs.length then some (.agg ((cs.drop o).take 2)) else none := by kernel_rfl
@[simp] theorem fld_13_0 : fieldP Try.prog 13 0 = some (9, 0) := by kernel_rfl
@[simp] theorem fld_13_1 : fieldP Try.prog 13 1 = some (12, 1) := by kernel_rfl
@[simp] theorem cells_14 : Try.prog.cellsOf 14 = 2 := by kernel_rfl
@[simp] theorem bytes_14 : Try.prog.bytesOf 14 = 24 := by kernel_rfl
@[simp] theorem whole_14 (cs : List V) : whole Try.prog 14 cs = if 2 ≤ cs.length then some (.agg (cs.take 2)) else none := by kernel_rfl
@[simp] theorem part_14 (cs : List V) (o : Nat) : partV Try.prog 14 cs o = if o + 2 ≤ cs.length then some (.agg ((cs.drop o).take 2)) else none := by kernel_rfl
@[simp] theorem fld_14_0 : fieldP Try.prog 14 0 = some (9, 0) := by kernel_rfl
@[simp] theorem fld_14_1 : fieldP Try.prog 14 1 = some (12, 1) := by kernel_rfl
@[simp] theorem cells_15 : Try.prog.cellsOf 15 = 1 := by kernel_rfl
@[simp] theorem bytes_15 : Try.prog.bytesOf 15 = 8 := by kernel_rfl
@[simp] theorem zero_15 : zeroC Try.prog 15 = some [(.raw (.pointer none))] := by kernel_rfl
@[simp] theorem zok_15 : zOk Try.prog 15 = true := by kernel_rfl
@[simp] theorem whole_15 (cs : List V) : whole Try.prog 15 cs = cs[0]? := by kernel_rfl
@[simp] theorem part_15 (cs : List V) (o : Nat) : partV Try.prog 15 cs o = cs[o]? := by kernel_rfl
@[simp] theorem cells_16 : Try.prog.cellsOf 16 = 1 := by kernel_rfl
@[simp] theorem bytes_16 : Try.prog.bytesOf 16 = 8 := by kernel_rfl
@[simp] theorem zero_16 : zeroC Try.prog 16 = some [(.raw (.pointer none))] := by kernel_rfl
@[simp] theorem zok_16 : zOk Try.prog 16 = true := by kernel_rfl
@[simp] theorem whole_16 (cs : List V) : whole Try.prog 16 cs = cs[0]? := by kernel_rfl
@[simp] theorem part_16 (cs : List V) (o : Nat) : partV Try.prog 16 cs o = cs[o]? := by kernel_rfl
@[simp] theorem cells_17 : Try.prog.cellsOf 17 = 1 := by kernel_rfl
@[simp] theorem bytes_17 : Try.prog.bytesOf 17 = 8 := by kernel_rfl
@[simp] theorem zero_17 : zeroC Try.prog 17 = some [(.raw (.pointer none))] := by kernel_rfl
@[simp] theorem zok_17 : zOk Try.prog 17 = true := by kernel_rfl
@[simp] theorem whole_17 (cs : List V) : whole Try.prog 17 cs = cs[0]? := by kernel_rfl
@[simp] theorem part_17 (cs : List V) (o : Nat) : partV Try.prog 17 cs o = cs[o]? := by kernel_rfl
@[simp] theorem cells_18 : Try.prog.cellsOf 18 = 1 := by kernel_rfl
@[simp] theorem bytes_18 : Try.prog.bytesOf 18 = 8 := by kernel_rfl
@[simp] theorem zero_18 : zeroC Try.prog 18 = some [(.raw (.pointer none))] := by kernel_rfl
@[simp] theorem zok_18 : zOk Try.prog 18 = true := by kernel_rfl
@[simp] theorem whole_18 (cs : List V) : whole Try.prog 18 cs = if 1 ≤ cs.length then some (.agg (cs.take 1)) else none := by kernel_rfl
@[simp] theorem part_18 (cs : List V) (o : Nat) : partV Try.prog 18 cs o = if o + 1 ≤ cs.length then some (.agg ((cs.drop o).take 1)) else none := by kernel_rfl
@[simp] theorem fld_18_0 : fieldP Try.prog 18 0 = some (17, 0) := by kernel_rfl
@[simp] theorem build_18 (ps : List (Nat × V)) : evBuild Try.prog 18 ps = if (ps.all fun p => flatOk p.2) = true then ma1 .agg (fillV (fun i => [(0, 1)][i]?) [(.raw (.pointer none))] ps) else none := build_of (by kernel_rfl) Try.underlying18 (by kernel_rfl) (by kernel_rfl) ps
@[simp] theorem cells_19 : Try.prog.cellsOf 19 = 1 := by kernel_rfl
@[simp] theorem bytes_19 : Try.prog.bytesOf 19 = 8 := by kernel_rfl
@[simp] theorem zero_19 : zeroC Try.prog 19 = some [(.raw (.pointer none))] := by kernel_rfl
@[simp] theorem zok_19 : zOk Try.prog 19 = true := by kernel_rfl
@[simp] theorem whole_19 (cs : List V) : whole Try.prog 19 cs = if 1 ≤ cs.length then some (.agg (cs.take 1)) else none := by kernel_rfl
@[simp] theorem part_19 (cs : List V) (o : Nat) : partV Try.prog 19 cs o = if o + 1 ≤ cs.length then some (.agg ((cs.drop o).take 1)) else none := by kernel_rfl
@[simp] theorem fld_19_0 : fieldP Try.prog 19 0 = some (17, 0) := by kernel_rfl
@[simp] theorem build_19 (ps : List (Nat × V)) : evBuild Try.prog 19 ps = if (ps.all fun p => flatOk p.2) = true then ma1 .agg (fillV (fun i => [(0, 1)][i]?) [(.raw (.pointer none))] ps) else none := build_of (by kernel_rfl) Try.underlying19 (by kernel_rfl) (by kernel_rfl) ps
@[simp] theorem cells_20 : Try.prog.cellsOf 20 = 1 := by kernel_rfl
@[simp] theorem bytes_20 : Try.prog.bytesOf 20 = 16 := by kernel_rfl
@[simp] theorem zero_20 : zeroC Try.prog 20 = some [(.raw .nilIface)] := by kernel_rfl
@[simp] theorem zok_20 : zOk Try.prog 20 = true := by kernel_rfl
@[simp] theorem whole_20 (cs : List V) : whole Try.prog 20 cs = cs[0]? := by kernel_rfl
@[simp] theorem part_20 (cs : List V) (o : Nat) : partV Try.prog 20 cs o = cs[o]? := by kernel_rfl
@[simp] theorem cells_21 : Try.prog.cellsOf 21 = 1 := by kernel_rfl
@[simp] theorem bytes_21 : Try.prog.bytesOf 21 = 4 := by kernel_rfl
@[simp] theorem zero_21 : zeroC Try.prog 21 = some [.int .i32 0] := by kernel_rfl
@[simp] theorem zok_21 : zOk Try.prog 21 = true := by kernel_rfl
@[simp] theorem whole_21 (cs : List V) : whole Try.prog 21 cs = cs[0]? := by kernel_rfl
@[simp] theorem part_21 (cs : List V) (o : Nat) : partV Try.prog 21 cs o = cs[o]? := by kernel_rfl
@[simp] theorem cells_22 : Try.prog.cellsOf 22 = 1 := by kernel_rfl
@[simp] theorem bytes_22 : Try.prog.bytesOf 22 = 24 := by kernel_rfl
@[simp] theorem zero_22 : zeroC Try.prog 22 = some [.nil] := by kernel_rfl
@[simp] theorem zok_22 : zOk Try.prog 22 = true := by kernel_rfl
@[simp] theorem whole_22 (cs : List V) : whole Try.prog 22 cs = cs[0]? := by kernel_rfl
@[simp] theorem part_22 (cs : List V) (o : Nat) : partV Try.prog 22 cs o = cs[o]? := by kernel_rfl
@[simp] theorem elem_22 : elemT Try.prog 22 = (some (none, 3)) := by kernel_rfl
@[simp] theorem isS_22 : sliceT Try.prog 22 = true := by kernel_rfl
@[simp] theorem cells_23 : Try.prog.cellsOf 23 = 1 := by kernel_rfl
@[simp] theorem bytes_23 : Try.prog.bytesOf 23 = 24 := by kernel_rfl
@[simp] theorem zero_23 : zeroC Try.prog 23 = some [.nil] := by kernel_rfl
@[simp] theorem zok_23 : zOk Try.prog 23 = true := by kernel_rfl
@[simp] theorem whole_23 (cs : List V) : whole Try.prog 23 cs = cs[0]? := by kernel_rfl
@[simp] theorem part_23 (cs : List V) (o : Nat) : partV Try.prog 23 cs o = cs[o]? := by kernel_rfl
@[simp] theorem elem_23 : elemT Try.prog 23 = (some (none, 22)) := by kernel_rfl
@[simp] theorem isS_23 : sliceT Try.prog 23 = true := by kernel_rfl
@[simp] theorem cells_24 : Try.prog.cellsOf 24 = 1 := by kernel_rfl
@[simp] theorem bytes_24 : Try.prog.bytesOf 24 = 24 := by kernel_rfl
@[simp] theorem zero_24 : zeroC Try.prog 24 = some [.nil] := by kernel_rfl
@[simp] theorem zok_24 : zOk Try.prog 24 = true := by kernel_rfl
@[simp] theorem whole_24 (cs : List V) : whole Try.prog 24 cs = cs[0]? := by kernel_rfl
@[simp] theorem part_24 (cs : List V) (o : Nat) : partV Try.prog 24 cs o = cs[o]? := by kernel_rfl
@[simp] theorem elem_24 : elemT Try.prog 24 = (some (none, 48)) := by kernel_rfl
@[simp] theorem isS_24 : sliceT Try.prog 24 = true := by kernel_rfl
@[simp] theorem cells_25 : Try.prog.cellsOf 25 = 1 := by kernel_rfl
@[simp] theorem bytes_25 : Try.prog.bytesOf 25 = 24 := by kernel_rfl
@[simp] theorem zero_25 : zeroC Try.prog 25 = some [.nil] := by kernel_rfl
@[simp] theorem zok_25 : zOk Try.prog 25 = true := by kernel_rfl
@[simp] theorem whole_25 (cs : List V) : whole Try.prog 25 cs = cs[0]? := by kernel_rfl
@[simp] theorem part_25 (cs : List V) (o : Nat) : partV Try.prog 25 cs o = cs[o]? := by kernel_rfl
@[simp] theorem elem_25 : elemT Try.prog 25 = (some (none, 63)) := by kernel_rfl
@[simp] theorem isS_25 : sliceT Try.prog 25 = true := by kernel_rfl
@[simp] theorem cells_26 : Try.prog.cellsOf 26 = 9 := by kernel_rfl
@[simp] theorem bytes_26 : Try.prog.bytesOf 26 = 152 := by kernel_rfl
@[simp] theorem zero_26 : zeroC Try.prog 26 = some [.int .i64 0, .int .i64 0, .int .i64 0, .int .i64 0, .nil, .nil, .nil, .nil, .nil] := by kernel_rfl
@[simp] theorem zok_26 : zOk Try.prog 26 = true := by kernel_rfl
@[simp] theorem whole_26 (cs : List V) : whole Try.prog 26 cs = if 9 ≤ cs.length then some (.agg (cs.take 9)) else none := by kernel_rfl
@[simp] theorem part_26 (cs : List V) (o : Nat) : partV Try.prog 26 cs o = if o + 9 ≤ cs.length then some (.agg ((cs.drop o).take 9)) else none := by kernel_rfl
@[simp] theorem fld_26_0 : fieldP Try.prog 26 0 = some (3, 0) := by kernel_rfl
@[simp] theorem fld_26_1 : fieldP Try.prog 26 1 = some (3, 1) := by kernel_rfl
@[simp] theorem fld_26_2 : fieldP Try.prog 26 2 = some (3, 2) := by kernel_rfl
@[simp] theorem fld_26_3 : fieldP Try.prog 26 3 = some (3, 3) := by kernel_rfl
@[simp] theorem fld_26_4 : fieldP Try.prog 26 4 = some (22, 4) := by kernel_rfl
@[simp] theorem fld_26_5 : fieldP Try.prog 26 5 = some (22, 5) := by kernel_rfl
@[simp] theorem fld_26_6 : fieldP Try.prog 26 6 = some (23, 6) := by kernel_rfl
@[simp] theorem fld_26_7 : fieldP Try.prog 26 7 = some (24, 7) := by kernel_rfl
@[simp] theorem fld_26_8 : fieldP Try.prog 26 8 = some (25, 8) := by kernel_rfl
@[simp] theorem build_26 (ps : List (Nat × V)) : evBuild Try.prog 26 ps = if (ps.all fun p => flatOk p.2) = true then ma1 .agg (fillV (fun i => [(0, 1), (1, 1), (2, 1), (3, 1), (4, 1), (5, 1), (6, 1), (7, 1), (8, 1)][i]?) [.int .i64 0, .int .i64 0, .int .i64 0, .int .i64 0, .nil, .nil, .nil, .nil, .nil] ps) else none := build_of (by kernel_rfl) Try.underlying26 (by kernel_rfl) (by kernel_rfl) ps
@[simp] theorem cells_27 : Try.prog.cellsOf 27 = 9 := by kernel_rfl
@[simp] theorem bytes_27 : Try.prog.bytesOf 27 = 152 := by kernel_rfl
@[simp] theorem zero_27 : zeroC Try.prog 27 = some [.int .i64 0, .int .i64 0, .int .i64 0, .int .i64 0, .nil, .nil, .nil, .nil, .nil] := by kernel_rfl
@[simp] theorem zok_27 : zOk Try.prog 27 = true := by kernel_rfl
@[simp] theorem whole_27 (cs : List V) : whole Try.prog 27 cs = if 9 ≤ cs.length then some (.agg (cs.take 9)) else none := by kernel_rfl
@[simp] theorem part_27 (cs : List V) (o : Nat) : partV Try.prog 27 cs o = if o + 9 ≤ cs.length then some (.agg ((cs.drop o).take 9)) else none := by kernel_rfl
@[simp] theorem fld_27_0 : fieldP Try.prog 27 0 = some (3, 0) := by kernel_rfl
@[simp] theorem fld_27_1 : fieldP Try.prog 27 1 = some (3, 1) := by kernel_rfl
@[simp] theorem fld_27_2 : fieldP Try.prog 27 2 = some (3, 2) := by kernel_rfl
@[simp] theorem fld_27_3 : fieldP Try.prog 27 3 = some (3, 3) := by kernel_rfl
@[simp] theorem fld_27_4 : fieldP Try.prog 27 4 = some (22, 4) := by kernel_rfl
@[simp] theorem fld_27_5 : fieldP Try.prog 27 5 = some (22, 5) := by kernel_rfl
@[simp] theorem fld_27_6 : fieldP Try.prog 27 6 = some (23, 6) := by kernel_rfl
@[simp] theorem fld_27_7 : fieldP Try.prog 27 7 = some (24, 7) := by kernel_rfl
@[simp] theorem fld_27_8 : fieldP Try.prog 27 8 = some (25, 8) := by kernel_rfl
@[simp] theorem build_27 (ps : List (Nat × V)) : evBuild Try.prog 27 ps = if (ps.all fun p => flatOk p.2) = true then ma1 .agg (fillV (fun i => [(0, 1), (1, 1), (2, 1), (3, 1), (4, 1), (5, 1), (6, 1), (7, 1), (8, 1)][i]?) [.int .i64 0, .int .i64 0, .int .i64 0, .int .i64 0, .nil, .nil, .nil, .nil, .nil] ps) else none := build_of (by kernel_rfl) Try.underlying27 (by kernel_rfl) (by kernel_rfl) ps
@[simp] theorem cells_28 : Try.prog.cellsOf 28 = 1 := by kernel_rfl
@[simp] theorem bytes_28 : Try.prog.bytesOf 28 = 24 := by kernel_rfl
@[simp] theorem zero_28 : zeroC Try.prog 28 = some [.nil] := by kernel_rfl
@[simp] theorem zok_28 : zOk Try.prog 28 = true := by kernel_rfl
@[simp] theorem whole_28 (cs : List V) : whole Try.prog 28 cs = cs[0]? := by kernel_rfl
@[simp] theorem part_28 (cs : List V) (o : Nat) : partV Try.prog 28 cs o = cs[o]? := by kernel_rfl
@[simp] theorem elem_28 : elemT Try.prog 28 = (some (none, 46)) := by kernel_rfl
@[simp] theorem isS_28 : sliceT Try.prog 28 = true := by kernel_rfl
@[simp] theorem cells_29 : Try.prog.cellsOf 29 = 1 := by kernel_rfl
@[simp] theorem bytes_29 : Try.prog.bytesOf 29 = 8 := by kernel_rfl
@[simp] theorem zero_29 : zeroC Try.prog 29 = some [(.raw .nilFunc)] := by kernel_rfl
@[simp] theorem zok_29 : zOk Try.prog 29 = true := by kernel_rfl
@[simp] theorem whole_29 (cs : List V) : whole Try.prog 29 cs = cs[0]? := by kernel_rfl
@[simp] theorem part_29 (cs : List V) (o : Nat) : partV Try.prog 29 cs o = cs[o]? := by kernel_rfl
@[simp] theorem cells_30 : Try.prog.cellsOf 30 = 1 := by kernel_rfl
@[simp] theorem bytes_30 : Try.prog.bytesOf 30 = 8 := by kernel_rfl
@[simp] theorem zero_30 : zeroC Try.prog 30 = some [(.raw .nilFunc)] := by kernel_rfl
@[simp] theorem zok_30 : zOk Try.prog 30 = true := by kernel_rfl
@[simp] theorem whole_30 (cs : List V) : whole Try.prog 30 cs = cs[0]? := by kernel_rfl
@[simp] theorem part_30 (cs : List V) (o : Nat) : partV Try.prog 30 cs o = cs[o]? := by kernel_rfl
@[simp] theorem cells_31 : Try.prog.cellsOf 31 = 1 := by kernel_rfl
@[simp] theorem bytes_31 : Try.prog.bytesOf 31 = 8 := by kernel_rfl
@[simp] theorem zero_31 : zeroC Try.prog 31 = some [(.raw .nilFunc)] := by kernel_rfl
@[simp] theorem zok_31 : zOk Try.prog 31 = true := by kernel_rfl
@[simp] theorem whole_31 (cs : List V) : whole Try.prog 31 cs = cs[0]? := by kernel_rfl
@[simp] theorem part_31 (cs : List V) (o : Nat) : partV Try.prog 31 cs o = cs[o]? := by kernel_rfl
@[simp] theorem cells_32 : Try.prog.cellsOf 32 = 2 := by kernel_rfl
@[simp] theorem bytes_32 : Try.prog.bytesOf 32 = 16 := by kernel_rfl
@[simp] theorem zero_32 : zeroC Try.prog 32 = some [.int .i64 0, .int .i64 0] := by kernel_rfl
@[simp] theorem zok_32 : zOk Try.prog 32 = true := by kernel_rfl
@[simp] theorem whole_32 (cs : List V) : whole Try.prog 32 cs = if 2 ≤ cs.length then some (.agg (cs.take 2)) else none := by kernel_rfl
@[simp] theorem part_32 (cs : List V) (o : Nat) : partV Try.prog 32 cs o = if o + 2 ≤ cs.length then some (.agg ((cs.drop o).take 2)) else none := by kernel_rfl
@[simp] theorem fld_32_0 : fieldP Try.prog 32 0 = some (3, 0) := by kernel_rfl
@[simp] theorem fld_32_1 : fieldP Try.prog 32 1 = some (3, 1) := by kernel_rfl
@[simp] theorem build_32 (ps : List (Nat × V)) : evBuild Try.prog 32 ps = if (ps.all fun p => flatOk p.2) = true then ma1 .agg (fillV (fun i => [(0, 1), (1, 1)][i]?) [.int .i64 0, .int .i64 0] ps) else none := build_of (by kernel_rfl) Try.underlying32 (by kernel_rfl) (by kernel_rfl) ps
@[simp] theorem cells_33 : Try.prog.cellsOf 33 = 2 := by kernel_rfl
@[simp] theorem bytes_33 : Try.prog.bytesOf 33 = 16 := by kernel_rfl
@[simp] theorem zero_33 : zeroC Try.prog 33 = some [.int .i64 0, .int .i64 0] := by kernel_rfl
@[simp] theorem zok_33 : zOk Try.prog 33 = true := by kernel_rfl
@[simp] theorem whole_33 (cs : List V) : whole Try.prog 33 cs = if 2 ≤ cs.length then some (.agg (cs.take 2)) else none := by kernel_rfl
@[simp] theorem part_33 (cs : List V) (o : Nat) : partV Try.prog 33 cs o = if o + 2 ≤ cs.length then some (.agg ((cs.drop o).take 2)) else none := by kernel_rfl
@[simp] theorem fld_33_0 : fieldP Try.prog 33 0 = some (3, 0) := by kernel_rfl
@[simp] theorem fld_33_1 : fieldP Try.prog 33 1 = some (3, 1) := by kernel_rfl
@[simp] theorem build_33 (ps : List (Nat × V)) : evBuild Try.prog 33 ps = if (ps.all fun p => flatOk p.2) = true then ma1 .agg (fillV (fun i => [(0, 1), (1, 1)][i]?) [.int .i64 0, .int .i64 0] ps) else none := build_of (by kernel_rfl) Try.underlying33 (by kernel_rfl) (by kernel_rfl) ps
@[simp] theorem cells_34 : Try.prog.cellsOf 34 = 1 := by kernel_rfl
@[simp] theorem bytes_34 : Try.prog.bytesOf 34 = 8 := by kernel_rfl
@[simp] theorem zero_34 : zeroC Try.prog 34 = some [.int .i64 0] := by kernel_rfl
@[simp] theorem zok_34 : zOk Try.prog 34 = true := by kernel_rfl
@[simp] theorem whole_34 (cs : List V) : whole Try.prog 34 cs = cs[0]? := by kernel_rfl
@[simp] theorem part_34 (cs : List V) (o : Nat) : partV Try.prog 34 cs o = cs[o]? := by kernel_rfl
@[simp] theorem cells_36 : Try.prog.cellsOf 36 = 1 := by kernel_rfl
@[simp] theorem bytes_36 : Try.prog.bytesOf 36 = 8 := by kernel_rfl
@[simp] theorem zero_36 : zeroC Try.prog 36 = some [(.raw .nilFunc)] := by kernel_rfl
@[simp] theorem zok_36 : zOk Try.prog 36 = true := by kernel_rfl
@[simp] theorem whole_36 (cs : List V) : whole Try.prog 36 cs = cs[0]? := by kernel_rfl
@[simp] theorem part_36 (cs : List V) (o : Nat) : partV Try.prog 36 cs o = cs[o]? := by kernel_rfl
@[simp] theorem cells_37 : Try.prog.cellsOf 37 = 1 := by kernel_rfl
@[simp] theorem bytes_37 : Try.prog.bytesOf 37 = 24 := by kernel_rfl
@[simp] theorem zero_37 : zeroC Try.prog 37 = some [.nil] := by kernel_rfl
@[simp] theorem zok_37 : zOk Try.prog 37 = true := by kernel_rfl
@[simp] theorem whole_37 (cs : List V) : whole Try.prog 37 cs = cs[0]? := by kernel_rfl
@[simp] theorem part_37 (cs : List V) (o : Nat) : partV Try.prog 37 cs o = cs[o]? := by kernel_rfl
@[simp] theorem elem_37 : elemT Try.prog 37 = (some (none, 66)) := by kernel_rfl
@[simp] theorem isS_37 : sliceT Try.prog 37 = true := by kernel_rfl
@[simp] theorem cells_38 : Try.prog.cellsOf 38 = 1 := by kernel_rfl
@[simp] theorem bytes_38 : Try.prog.bytesOf 38 = 24 := by kernel_rfl
@[simp] theorem zero_38 : zeroC Try.prog 38 = some [.nil] := by kernel_rfl
@[simp] theorem zok_38 : zOk Try.prog 38 = true := by kernel_rfl
@[simp] theorem whole_38 (cs : List V) : whole Try.prog 38 cs = cs[0]? := by kernel_rfl
@[simp] theorem part_38 (cs : List V) (o : Nat) : partV Try.prog 38 cs o = cs[o]? := by kernel_rfl
@[simp] theorem elem_38 : elemT Try.prog 38 = (some (none, 89)) := by kernel_rfl
@[simp] theorem isS_38 : sliceT Try.prog 38 = true := by kernel_rfl
@[simp] theorem cells_39 : Try.prog.cellsOf 39 = 9 := by kernel_rfl
@[simp] theorem bytes_39 : Try.prog.bytesOf 39 = 152 := by kernel_rfl
@[simp] theorem zero_39 : zeroC Try.prog 39 = some [.int .i64 0, .int .i64 0, .int .i64 0, .int .i64 0, .nil, .nil, .nil, .nil, .nil] := by kernel_rfl
@[simp] theorem zok_39 : zOk Try.prog 39 = true := by kernel_rfl
@[simp] theorem whole_39 (cs : List V) : whole Try.prog 39 cs = if 9 ≤ cs.length then some (.agg (cs.take 9)) else none := by kernel_rfl
@[simp] theorem part_39 (cs : List V) (o : Nat) : partV Try.prog 39 cs o = if o + 9 ≤ cs.length then some (.agg ((cs.drop o).take 9)) else none := by kernel_rfl
@[simp] theorem fld_39_0 : fieldP Try.prog 39 0 = some (3, 0) := by kernel_rfl
@[simp] theorem fld_39_1 : fieldP Try.prog 39 1 = some (3, 1) := by kernel_rfl
@[simp] theorem fld_39_2 : fieldP Try.prog 39 2 = some (3, 2) := by kernel_rfl
@[simp] theorem fld_39_3 : fieldP Try.prog 39 3 = some (3, 3) := by kernel_rfl
@[simp] theorem fld_39_4 : fieldP Try.prog 39 4 = some (22, 4) := by kernel_rfl
@[simp] theorem fld_39_5 : fieldP Try.prog 39 5 = some (22, 5) := by kernel_rfl
@[simp] theorem fld_39_6 : fieldP Try.prog 39 6 = some (23, 6) := by kernel_rfl
@[simp] theorem fld_39_7 : fieldP Try.prog 39 7 = some (37, 7) := by kernel_rfl
@[simp] theorem fld_39_8 : fieldP Try.prog 39 8 = some (38, 8) := by kernel_rfl
@[simp] theorem build_39 (ps : List (Nat × V)) : evBuild Try.prog 39 ps = if (ps.all fun p => flatOk p.2) = true then ma1 .agg (fillV (fun i => [(0, 1), (1, 1), (2, 1), (3, 1), (4, 1), (5, 1), (6, 1), (7, 1), (8, 1)][i]?) [.int .i64 0, .int .i64 0, .int .i64 0, .int .i64 0, .nil, .nil, .nil, .nil, .nil] ps) else none := build_of (by kernel_rfl) Try.underlying39 (by kernel_rfl) (by kernel_rfl) ps
@[simp] theorem cells_40 : Try.prog.cellsOf 40 = 9 := by kernel_rfl
@[simp] theorem bytes_40 : Try.prog.bytesOf 40 = 152 := by kernel_rfl
@[simp] theorem zero_40 : zeroC Try.prog 40 = some [.int .i64 0, .int .i64 0, .int .i64 0, .int .i64 0, .nil, .nil, .nil, .nil, .nil] := by kernel_rfl
@[simp] theorem zok_40 : zOk Try.prog 40 = true := by kernel_rfl
@[simp] theorem whole_40 (cs : List V) : whole Try.prog 40 cs = if 9 ≤ cs.length then some (.agg (cs.take 9)) else none := by kernel_rfl
@[simp] theorem part_40 (cs : List V) (o : Nat) : partV Try.prog 40 cs o = if o + 9 ≤ cs.length then some (.agg ((cs.drop o).take 9)) else none := by kernel_rfl
@[simp] theorem fld_40_0 : fieldP Try.prog 40 0 = some (3, 0) := by kernel_rfl
@[simp] theorem fld_40_1 : fieldP Try.prog 40 1 = some (3, 1) := by kernel_rfl
@[simp] theorem fld_40_2 : fieldP Try.prog 40 2 = some (3, 2) := by kernel_rfl
@[simp] theorem fld_40_3 : fieldP Try.prog 40 3 = some (3, 3) := by kernel_rfl
@[simp] theorem fld_40_4 : fieldP Try.prog 40 4 = some (22, 4) := by kernel_rfl
@[simp] theorem fld_40_5 : fieldP Try.prog 40 5 = some (22, 5) := by kernel_rfl
@[simp] theorem fld_40_6 : fieldP Try.prog 40 6 = some (23, 6) := by kernel_rfl
@[simp] theorem fld_40_7 : fieldP Try.prog 40 7 = some (37, 7) := by kernel_rfl
@[simp] theorem fld_40_8 : fieldP Try.prog 40 8 = some (38, 8) := by kernel_rfl
@[simp] theorem build_40 (ps : List (Nat × V)) : evBuild Try.prog 40 ps = if (ps.all fun p => flatOk p.2) = true then ma1 .agg (fillV (fun i => [(0, 1), (1, 1), (2, 1), (3, 1), (4, 1), (5, 1), (6, 1), (7, 1), (8, 1)][i]?) [.int .i64 0, .int .i64 0, .int .i64 0, .int .i64 0, .nil, .nil, .nil, .nil, .nil] ps) else none := build_of (by kernel_rfl) Try.underlying40 (by kernel_rfl) (by kernel_rfl) ps
@[simp] theorem cells_41 : Try.prog.cellsOf 41 = 1 := by kernel_rfl
@[simp] theorem bytes_41 : Try.prog.bytesOf 41 = 8 := by kernel_rfl
@[simp] theorem zero_41 : zeroC Try.prog 41 = some [(.raw .nilFunc)] := by kernel_rfl
@[simp] theorem zok_41 : zOk Try.prog 41 = true := by kernel_rfl
@[simp] theorem whole_41 (cs : List V) : whole Try.prog 41 cs = cs[0]? := by kernel_rfl
@[simp] theorem part_41 (cs : List V) (o : Nat) : partV Try.prog 41 cs o = cs[o]? := by kernel_rfl
@[simp] theorem cells_42 : Try.prog.cellsOf 42 = 1 := by kernel_rfl
@[simp] theorem bytes_42 : Try.prog.bytesOf 42 = 8 := by kernel_rfl
@[simp] theorem zero_42 : zeroC Try.prog 42 = some [(.raw .nilFunc)] := by kernel_rfl
@[simp] theorem zok_42 : zOk Try.prog 42 = true := by kernel_rfl
@[simp] theorem whole_42 (cs : List V) : whole Try.prog 42 cs = cs[0]? := by kernel_rfl
@[simp] theorem part_42 (cs : List V) (o : Nat) : partV Try.prog 42 cs o = cs[o]? := by kernel_rfl
@[simp] theorem cells_43 : Try.prog.cellsOf 43 = 1 := by kernel_rfl
@[simp] theorem bytes_43 : Try.prog.bytesOf 43 = 8 := by kernel_rfl
@[simp] theorem zero_43 : zeroC Try.prog 43 = some [(.raw .nilFunc)] := by kernel_rfl
@[simp] theorem zok_43 : zOk Try.prog 43 = true := by kernel_rfl
@[simp] theorem whole_43 (cs : List V) : whole Try.prog 43 cs = cs[0]? := by kernel_rfl
@[simp] theorem part_43 (cs : List V) (o : Nat) : partV Try.prog 43 cs o = cs[o]? := by kernel_rfl
@[simp] theorem cells_44 : Try.prog.cellsOf 44 = 1 := by kernel_rfl
@[simp] theorem bytes_44 : Try.prog.bytesOf 44 = 8 := by kernel_rfl
@[simp] theorem zero_44 : zeroC Try.prog 44 = some [(.raw .nilFunc)] := by kernel_rfl
@[simp] theorem zok_44 : zOk Try.prog 44 = true := by kernel_rfl
@[simp] theorem whole_44 (cs : List V) : whole Try.prog 44 cs = cs[0]? := by kernel_rfl
@[simp] theorem part_44 (cs : List V) (o : Nat) : partV Try.prog 44 cs o = cs[o]? := by kernel_rfl
@[simp] theorem cells_45 : Try.prog.cellsOf 45 = 1 := by kernel_rfl
@[simp] theorem bytes_45 : Try.prog.bytesOf 45 = 8 := by kernel_rfl
@[simp] theorem zero_45 : zeroC Try.prog 45 = some [(.raw .nilFunc)] := by kernel_rfl
@[simp] theorem zok_45 : zOk Try.prog 45 = true := by kernel_rfl
@[simp] theorem whole_45 (cs : List V) : whole Try.prog 45 cs = cs[0]? := by kernel_rfl
@[simp] theorem part_45 (cs : List V) (o : Nat) : partV Try.prog 45 cs o = cs[o]? := by kernel_rfl
@[simp] theorem cells_46 : Try.prog.cellsOf 46 = 1 := by kernel_rfl
@[simp] theorem bytes_46 : Try.prog.bytesOf 46 = 2 := by kernel_rfl
@[simp] theorem zero_46 : zeroC Try.prog 46 = some [.int .u16 0] := by kernel_rfl
@[simp] theorem zok_46 : zOk Try.prog 46 = true := by kernel_rfl
@[simp] theorem whole_46 (cs : List V) : whole Try.prog 46 cs = cs[0]? := by kernel_rfl
@[simp] theorem part_46 (cs : List V) (o : Nat) : partV Try.prog 46 cs o = cs[o]? := by kernel_rfl
@[simp] theorem cells_47 : Try.prog.cellsOf 47 = 2 := by kernel_rfl
@[simp] theorem bytes_47 : Try.prog.bytesOf 47 = 16 := by kernel_rfl
@[simp] theorem zero_47 : zeroC Try.prog 47 = some [.int .i64 0, .int .i64 0] := by kernel_rfl
@[simp] theorem zok_47 : zOk Try.prog 47 = true := by kernel_rfl
@[simp] theorem whole_47 (cs : List V) : whole Try.prog 47 cs = if 2 ≤ cs.length then some (.agg (cs.take 2)) else none := by kernel_rfl
@[simp] theorem part_47 (cs : List V) (o : Nat) : partV Try.prog 47 cs o = if o + 2 ≤ cs.length then some (.agg ((cs.drop o).take 2)) else none := by kernel_rfl
@[simp] theorem fld_47_0 : fieldP Try.prog 47 0 = some (3, 0) := by kernel_rfl
@[simp] theorem fld_47_1 : fieldP Try.prog 47 1 = some (3, 1) := by kernel_rfl
@[simp] theorem build_47 (ps : List (Nat × V)) : evBuild Try.prog 47 ps = if (ps.all fun p => flatOk p.2) = true then ma1 .agg (fillV (fun i => [(0, 1), (1, 1)][i]?) [.int .i64 0, .int .i64 0] ps) else none := build_of (by kernel_rfl) Try.underlying47 (by kernel_rfl) (by kernel_rfl) ps
@[simp] theorem cells_48 : Try.prog.cellsOf 48 = 2 := by kernel_rfl
@[simp] theorem bytes_48 : Try.prog.bytesOf 48 = 16 := by kernel_rfl
@[simp] theorem zero_48 : zeroC Try.prog 48 = some [.int .i64 0, .int .i64 0] := by kernel_rfl
@[simp] theorem zok_48 : zOk Try.prog 48 = true := by kernel_rfl
@[simp] theorem whole_48 (cs : List V) : whole Try.prog 48 cs = if 2 ≤ cs.length then some (.agg (cs.take 2)) else none := by kernel_rfl
@[simp] theorem part_48 (cs : List V) (o : Nat) : partV Try.prog 48 cs o = if o + 2 ≤ cs.length then some (.agg ((cs.drop o).take 2)) else none := by kernel_rfl
@[simp] theorem fld_48_0 : fieldP Try.prog 48 0 = some (3, 0) := by kernel_rfl
@[simp] theorem fld_48_1 : fieldP Try.prog 48 1 = some (3, 1) := by kernel_rfl
@[simp] theorem build_48 (ps : List (Nat × V)) : evBuild Try.prog 48 ps = if (ps.all fun p => flatOk p.2) = true then ma1 .agg (fillV (fun i => [(0, 1), (1, 1)][i]?) [.int .i64 0, .int .i64 0] ps) else none := build_of (by kernel_rfl) Try.underlying48 (by kernel_rfl) (by kernel_rfl) ps
@[simp] theorem cells_49 : Try.prog.cellsOf 49 = 1 := by kernel_rfl
@[simp] theorem bytes_49 : Try.prog.bytesOf 49 = 8 := by kernel_rfl
@[simp] theorem zero_49 : zeroC Try.prog 49 = some [(.raw .nilFunc)] := by kernel_rfl
@[simp] theorem zok_49 : zOk Try.prog 49 = true := by kernel_rfl
@[simp] theorem whole_49 (cs : List V) : whole Try.prog 49 cs = cs[0]? := by kernel_rfl
@[simp] theorem part_49 (cs : List V) (o : Nat) : partV Try.prog 49 cs o = cs[o]? := by kernel_rfl
@[simp] theorem cells_50 : Try.prog.cellsOf 50 = 1 := by kernel_rfl
@[simp] theorem bytes_50 : Try.prog.bytesOf 50 = 8 := by kernel_rfl
@[simp] theorem zero_50 : zeroC Try.prog 50 = some [(.raw .nilFunc)] := by kernel_rfl
@[simp] theorem zok_50 : zOk Try.prog 50 = true := by kernel_rfl
@[simp] theorem whole_50 (cs : List V) : whole Try.prog 50 cs = cs[0]? := by kernel_rfl
@[simp] theorem part_50 (cs : List V) (o : Nat) : partV Try.prog 50 cs o = cs[o]? := by kernel_rfl
@[simp] theorem cells_51 : Try.prog.cellsOf 51 = 1 := by kernel_rfl
@[simp] theorem bytes_51 : Try.prog.bytesOf 51 = 24 := by kernel_rfl
@[simp] theorem zero_51 : zeroC Try.prog 51 = some [.nil] := by kernel_rfl
@[simp] theorem zok_51 : zOk Try.prog 51 = true := by kernel_rfl
@[simp] theorem whole_51 (cs : List V) : whole Try.prog 51 cs = cs[0]? := by kernel_rfl
@[simp] theorem part_51 (cs : List V) (o : Nat) : partV Try.prog 51 cs o = cs[o]? := by kernel_rfl
@[simp] theorem elem_51 : elemT Try.prog 51 = (some (none, 59)) := by kernel_rfl
@[simp] theorem isS_51 : sliceT Try.prog 51 = true := by kernel_rfl
@[simp] theorem cells_53 : Try.prog.cellsOf 53 = 1 := by kernel_rfl
@[simp] theorem bytes_53 : Try.prog.bytesOf 53 = 8 := by kernel_rfl
@[simp] theorem zero_53 : zeroC Try.prog 53 = some [(.raw .nilFunc)] := by kernel_rfl
@[simp] theorem zok_53 : zOk Try.prog 53 = true := by kernel_rfl
@[simp] theorem whole_53 (cs : List V) : whole Try.prog 53 cs = cs[0]? := by kernel_rfl
@[simp] theorem part_53 (cs : List V) (o : Nat) : partV Try.prog 53 cs o = cs[o]? := by kernel_rfl
@[simp] theorem cells_55 : Try.prog.cellsOf 55 = 1 := by kernel_rfl
@[simp] theorem bytes_55 : Try.prog.bytesOf 55 = 8 := by kernel_rfl
@[simp] theorem zero_55 : zeroC Try.prog 55 = some [(.raw .nilFunc)] := by kernel_rfl
@[simp] theorem zok_55 : zOk Try.prog 55 = true := by kernel_rfl
@[simp] theorem whole_55 (cs : List V) : whole Try.prog 55 cs = cs[0]? := by kernel_rfl
@[simp] theorem part_55 (cs : List V) (o : Nat) : partV Try.prog 55 cs o = cs[o]? := by kernel_rfl
@[simp] theorem cells_56 : Try.prog.cellsOf 56 = 1 := by kernel_rfl
@[simp] theorem bytes_56 : Try.prog.bytesOf 56 = 8 := by kernel_rfl
@[simp] theorem zero_56 : zeroC Try.prog 56 = some [(.raw .nilFunc)] := by kernel_rfl
@[simp] theorem zok_56 : zOk Try.prog 56 = true := by kernel_rfl
@[simp] theorem whole_56 (cs : List V) : whole Try.prog 56 cs = cs[0]? := by kernel_rfl
@[simp] theorem part_56 (cs : List V) (o : Nat) : partV Try.prog 56 cs o = cs[o]? := by kernel_rfl
@[simp] theorem cells_57 : Try.prog.cellsOf 57 = 3 := by kernel_rfl
@[simp] theorem bytes_57 : Try.prog.bytesOf 57 = 24 := by kernel_rfl
@[simp] theorem zero_57 : zeroC Try.prog 57 = some [.int .i64 0, .int .i64 0, .int .i64 0] := by kernel_rfl
@[simp] theorem zok_57 : zOk Try.prog 57 = true := by kernel_rfl
@[simp] theorem whole_57 (cs : List V) : whole Try.prog 57 cs = if 3 ≤ cs.length then some (.agg (cs.take 3)) else none := by kernel_rfl
@[simp] theorem part_57 (cs : List V) (o : Nat) : partV Try.prog 57 cs o = if o + 3 ≤ cs.length then some (.agg ((cs.drop o).take 3)) else none := by kernel_rfl
@[simp] theorem fld_57_0 : fieldP Try.prog 57 0 = some (3, 0) := by kernel_rfl
@[simp] theorem fld_57_1 : fieldP Try.prog 57 1 = some (3, 1) := by kernel_rfl
@[simp] theorem fld_57_2 : fieldP Try.prog 57 2 = some (3, 2) := by kernel_rfl
@[simp] theorem build_57 (ps : List (Nat × V)) : evBuild Try.prog 57 ps = if (ps.all fun p => flatOk p.2) = true then ma1 .agg (fillV (fun i => [(0, 1), (1, 1), (2, 1)][i]?) [.int .i64 0, .int .i64 0, .int .i64 0] ps) else none := build_of (by kernel_rfl) Try.underlying57 (by kernel_rfl) (by kernel_rfl) ps
@[simp] theorem cells_58 : Try.prog.cellsOf 58 = 3 := by kernel_rfl
@[simp] theorem bytes_58 : Try.prog.bytesOf 58 = 24 := by kernel_rfl
@[simp] theorem zero_58 : zeroC Try.prog 58 = some [.int .i64 0, .int .i64 0, .int .i64 0] := by kernel_rfl
@[simp] theorem zok_58 : zOk Try.prog 58 = true := by kernel_rfl
@[simp] theorem whole_58 (cs : List V) : whole Try.prog 58 cs = if 3 ≤ cs.length then some (.agg (cs.take 3)) else none := by kernel_rfl
@[simp] theorem part_58 (cs : List V) (o : Nat) : partV Try.prog 58 cs o = if o + 3 ≤ cs.length then some (.agg ((cs.drop o).take 3)) else none := by kernel_rfl
@[simp] theorem fld_58_0 : fieldP Try.prog 58 0 = some (3, 0) := by kernel_rfl
@[simp] theorem fld_58_1 : fieldP Try.prog 58 1 = some (3, 1) := by kernel_rfl
@[simp] theorem fld_58_2 : fieldP Try.prog 58 2 = some (3, 2) := by kernel_rfl
@[simp] theorem build_58 (ps : List (Nat × V)) : evBuild Try.prog 58 ps = if (ps.all fun p => flatOk p.2) = true then ma1 .agg (fillV (fun i => [(0, 1), (1, 1), (2, 1)][i]?) [.int .i64 0, .int .i64 0, .int .i64 0] ps) else none := build_of (by kernel_rfl) Try.underlying58 (by kernel_rfl) (by kernel_rfl) ps
@[simp] theorem cells_59 : Try.prog.cellsOf 59 = 1 := by kernel_rfl
@[simp] theorem bytes_59 : Try.prog.bytesOf 59 = 24 := by kernel_rfl
@[simp] theorem zero_59 : zeroC Try.prog 59 = some [.nil] := by kernel_rfl
@[simp] theorem zok_59 : zOk Try.prog 59 = true := by kernel_rfl
@[simp] theorem whole_59 (cs : List V) : whole Try.prog 59 cs = cs[0]? := by kernel_rfl
@[simp] theorem part_59 (cs : List V) (o : Nat) : partV Try.prog 59 cs o = cs[o]? := by kernel_rfl
@[simp] theorem elem_59 : elemT Try.prog 59 = (some (none, 58)) := by kernel_rfl
@[simp] theorem isS_59 : sliceT Try.prog 59 = true := by kernel_rfl
@[simp] theorem cells_60 : Try.prog.cellsOf 60 = 1 := by kernel_rfl
@[simp] theorem bytes_60 : Try.prog.bytesOf 60 = 8 := by kernel_rfl
@[simp] theorem zero_60 : zeroC Try.prog 60 = some [(.raw .nilFunc)] := by kernel_rfl
@[simp] theorem zok_60 : zOk Try.prog 60 = true := by kernel_rfl
@[simp] theorem whole_60 (cs : List V) : whole Try.prog 60 cs = cs[0]? := by kernel_rfl
@[simp] theorem part_60 (cs : List V) (o : Nat) : partV Try.prog 60 cs o = cs[o]? := by kernel_rfl
@[simp] theorem cells_61 : Try.prog.cellsOf 61 = 1 := by kernel_rfl
@[simp] theorem bytes_61 : Try.prog.bytesOf 61 = 8 := by kernel_rfl
@[simp] theorem zero_61 : zeroC Try.prog 61 = some [(.raw .nilFunc)] := by kernel_rfl
@[simp] theorem zok_61 : zOk Try.prog 61 = true := by kernel_rfl
@[simp] theorem whole_61 (cs : List V) : whole Try.prog 61 cs = cs[0]? := by kernel_rfl
@[simp] theorem part_61 (cs : List V) (o : Nat) : partV Try.prog 61 cs o = cs[o]? := by kernel_rfl
@[simp] theorem cells_62 : Try.prog.cellsOf 62 = 2 := by kernel_rfl
@[simp] theorem bytes_62 : Try.prog.bytesOf 62 = 16 := by kernel_rfl
@[simp] theorem zero_62 : zeroC Try.prog 62 = some [.int .i64 0, .int .i64 0] := by kernel_rfl
@[simp] theorem zok_62 : zOk Try.prog 62 = true := by kernel_rfl
@[simp] theorem whole_62 (cs : List V) : whole Try.prog 62 cs = if 2 ≤ cs.length then some (.agg (cs.take 2)) else none := by kernel_rfl
@[simp] theorem part_62 (cs : List V) (o : Nat) : partV Try.prog 62 cs o = if o + 2 ≤ cs.length then some (.agg ((cs.drop o).take 2)) else none := by kernel_rfl
@[simp] theorem fld_62_0 : fieldP Try.prog 62 0 = some (3, 0) := by kernel_rfl
@[simp] theorem fld_62_1 : fieldP Try.prog 62 1 = some (3, 1) := by kernel_rfl
@[simp] theorem build_62 (ps : List (Nat × V)) : evBuild Try.prog 62 ps = if (ps.all fun p => flatOk p.2) = true then ma1 .agg (fillV (fun i => [(0, 1), (1, 1)][i]?) [.int .i64 0, .int .i64 0] ps) else none := build_of (by kernel_rfl) Try.underlying62 (by kernel_rfl) (by kernel_rfl) ps
@[simp] theorem cells_63 : Try.prog.cellsOf 63 = 2 := by kernel_rfl
@[simp] theorem bytes_63 : Try.prog.bytesOf 63 = 16 := by kernel_rfl
@[simp] theorem zero_63 : zeroC Try.prog 63 = some [.int .i64 0, .int .i64 0] := by kernel_rfl
@[simp] theorem zok_63 : zOk Try.prog 63 = true := by kernel_rfl
@[simp] theorem whole_63 (cs : List V) : whole Try.prog 63 cs = if 2 ≤ cs.length then some (.agg (cs.take 2)) else none := by kernel_rfl
@[simp] theorem part_63 (cs : List V) (o : Nat) : partV Try.prog 63 cs o = if o + 2 ≤ cs.length then some (.agg ((cs.drop o).take 2)) else none := by kernel_rfl
@[simp] theorem fld_63_0 : fieldP Try.prog 63 0 = some (3, 0) := by kernel_rfl
@[simp] theorem fld_63_1 : fieldP Try.prog 63 1 = some (3, 1) := by kernel_rfl
@[simp] theorem build_63 (ps : List (Nat × V)) : evBuild Try.prog 63 ps = if (ps.all fun p => flatOk p.2) = true then ma1 .agg (fillV (fun i => [(0, 1), (1, 1)][i]?) [.int .i64 0, .int .i64 0] ps) else none := build_of (by kernel_rfl) Try.underlying63 (by kernel_rfl) (by kernel_rfl) ps
@[simp] theorem cells_65 : Try.prog.cellsOf 65 = 1 := by kernel_rfl
@[simp] theorem bytes_65 : Try.prog.bytesOf 65 = 8 := by kernel_rfl
@[simp] theorem zero_65 : zeroC Try.prog 65 = some [(.raw .nilFunc)] := by kernel_rfl
@[simp] theorem zok_65 : zOk Try.prog 65 = true := by kernel_rfl
@[simp] theorem whole_65 (cs : List V) : whole Try.prog 65 cs = cs[0]? := by kernel_rfl
@[simp] theorem part_65 (cs : List V) (o : Nat) : partV Try.prog 65 cs o = cs[o]? := by kernel_rfl
@[simp] theorem cells_66 : Try.prog.cellsOf 66 = 2 := by kernel_rfl
@[simp] theorem bytes_66 : Try.prog.bytesOf 66 = 16 := by kernel_rfl
@[simp] theorem zero_66 : zeroC Try.prog 66 = some [.int .i64 0, .int .i64 0] := by kernel_rfl
@[simp] theorem zok_66 : zOk Try.prog 66 = true := by kernel_rfl
@[simp] theorem whole_66 (cs : List V) : whole Try.prog 66 cs = if 2 ≤ cs.length then some (.agg (cs.take 2)) else none := by kernel_rfl
@[simp] theorem part_66 (cs : List V) (o : Nat) : partV Try.prog 66 cs o = if o + 2 ≤ cs.length then some (.agg ((cs.drop o).take 2)) else none := by kernel_rfl
@[simp] theorem fld_66_0 : fieldP Try.prog 66 0 = some (3, 0) := by kernel_rfl
@[simp] theorem fld_66_1 : fieldP Try.prog 66 1 = some (3, 1) := by kernel_rfl
@[simp] theorem build_66 (ps : List (Nat × V)) : evBuild Try.prog 66 ps = if (ps.all fun p => flatOk p.2) = true then ma1 .agg (fillV (fun i => [(0, 1), (1, 1)][i]?) [.int .i64 0, .int .i64 0] ps) else none := build_of (by kernel_rfl) Try.underlying66 (by kernel_rfl) (by kernel_rfl) ps
@[simp] theorem cells_68 : Try.prog.cellsOf 68 = 1 := by kernel_rfl
@[simp] theorem bytes_68 : Try.prog.bytesOf 68 = 8 := by kernel_rfl
@[simp] theorem zero_68 : zeroC Try.prog 68 = some [(.raw .nilFunc)] := by kernel_rfl
@[simp] theorem zok_68 : zOk Try.prog 68 = true := by kernel_rfl
@[simp] theorem whole_68 (cs : List V) : whole Try.prog 68 cs = cs[0]? := by kernel_rfl
@[simp] theorem part_68 (cs : List V) (o : Nat) : partV Try.prog 68 cs o = cs[o]? := by kernel_rfl
@[simp] theorem cells_69 : Try.prog.cellsOf 69 = 1 := by kernel_rfl
@[simp] theorem bytes_69 : Try.prog.bytesOf 69 = 8 := by kernel_rfl
@[simp] theorem zero_69 : zeroC Try.prog 69 = some [(.raw .nilFunc)] := by kernel_rfl
@[simp] theorem zok_69 : zOk Try.prog 69 = true := by kernel_rfl
@[simp] theorem whole_69 (cs : List V) : whole Try.prog 69 cs = cs[0]? := by kernel_rfl
@[simp] theorem part_69 (cs : List V) (o : Nat) : partV Try.prog 69 cs o = cs[o]? := by kernel_rfl
@[simp] theorem cells_70 : Try.prog.cellsOf 70 = 1 := by kernel_rfl
@[simp] theorem bytes_70 : Try.prog.bytesOf 70 = 8 := by kernel_rfl
@[simp] theorem zero_70 : zeroC Try.prog 70 = some [(.raw .nilFunc)] := by kernel_rfl
@[simp] theorem zok_70 : zOk Try.prog 70 = true := by kernel_rfl
@[simp] theorem whole_70 (cs : List V) : whole Try.prog 70 cs = cs[0]? := by kernel_rfl
@[simp] theorem part_70 (cs : List V) (o : Nat) : partV Try.prog 70 cs o = cs[o]? := by kernel_rfl
@[simp] theorem cells_71 : Try.prog.cellsOf 71 = 1 := by kernel_rfl
@[simp] theorem bytes_71 : Try.prog.bytesOf 71 = 8 := by kernel_rfl
@[simp] theorem zero_71 : zeroC Try.prog 71 = some [(.raw .nilFunc)] := by kernel_rfl
@[simp] theorem zok_71 : zOk Try.prog 71 = true := by kernel_rfl
@[simp] theorem whole_71 (cs : List V) : whole Try.prog 71 cs = cs[0]? := by kernel_rfl
@[simp] theorem part_71 (cs : List V) (o : Nat) : partV Try.prog 71 cs o = cs[o]? := by kernel_rfl
@[simp] theorem cells_72 : Try.prog.cellsOf 72 = 1 := by kernel_rfl
@[simp] theorem bytes_72 : Try.prog.bytesOf 72 = 8 := by kernel_rfl
@[simp] theorem zero_72 : zeroC Try.prog 72 = some [(.raw .nilFunc)] := by kernel_rfl
@[simp] theorem zok_72 : zOk Try.prog 72 = true := by kernel_rfl
@[simp] theorem whole_72 (cs : List V) : whole Try.prog 72 cs = cs[0]? := by kernel_rfl
@[simp] theorem part_72 (cs : List V) (o : Nat) : partV Try.prog 72 cs o = cs[o]? := by kernel_rfl
@[simp] theorem cells_73 : Try.prog.cellsOf 73 = 1 := by kernel_rfl
@[simp] theorem bytes_73 : Try.prog.bytesOf 73 = 8 := by kernel_rfl
@[simp] theorem zero_73 : zeroC Try.prog 73 = some [(.raw .nilFunc)] := by kernel_rfl
@[simp] theorem zok_73 : zOk Try.prog 73 = true := by kernel_rfl
@[simp] theorem whole_73 (cs : List V) : whole Try.prog 73 cs = cs[0]? := by kernel_rfl
@[simp] theorem part_73 (cs : List V) (o : Nat) : partV Try.prog 73 cs o = cs[o]? := by kernel_rfl
@[simp] theorem cells_74 : Try.prog.cellsOf 74 = 1 := by kernel_rfl
@[simp] theorem bytes_74 : Try.prog.bytesOf 74 = 8 := by kernel_rfl
@[simp] theorem zero_74 : zeroC Try.prog 74 = some [(.raw .nilFunc)] := by kernel_rfl
@[simp] theorem zok_74 : zOk Try.prog 74 = true := by kernel_rfl
@[simp] theorem whole_74 (cs : List V) : whole Try.prog 74 cs = cs[0]? := by kernel_rfl
@[simp] theorem part_74 (cs : List V) (o : Nat) : partV Try.prog 74 cs o = cs[o]? := by kernel_rfl
@[simp] theorem cells_75 : Try.prog.cellsOf 75 = 1 := by kernel_rfl
@[simp] theorem bytes_75 : Try.prog.bytesOf 75 = 8 := by kernel_rfl
@[simp] theorem zero_75 : zeroC Try.prog 75 = some [(.raw .nilFunc)] := by kernel_rfl
@[simp] theorem zok_75 : zOk Try.prog 75 = true := by kernel_rfl
@[simp] theorem whole_75 (cs : List V) : whole Try.prog 75 cs = cs[0]? := by kernel_rfl
@[simp] theorem part_75 (cs : List V) (o : Nat) : partV Try.prog 75 cs o = cs[o]? := by kernel_rfl
@[simp] theorem cells_76 : Try.prog.cellsOf 76 = 1 := by kernel_rfl
@[simp] theorem bytes_76 : Try.prog.bytesOf 76 = 8 := by kernel_rfl
@[simp] theorem zero_76 : zeroC Try.prog 76 = some [(.raw .nilFunc)] := by kernel_rfl
@[simp] theorem zok_76 : zOk Try.prog 76 = true := by kernel_rfl
@[simp] theorem whole_76 (cs : List V) : whole Try.prog 76 cs = cs[0]? := by kernel_rfl
@[simp] theorem part_76 (cs : List V) (o : Nat) : partV Try.prog 76 cs o = cs[o]? := by kernel_rfl
@[simp] theorem cells_77 : Try.prog.cellsOf 77 = 1 := by kernel_rfl
@[simp] theorem bytes_77 : Try.prog.bytesOf 77 = 8 := by kernel_rfl
@[simp] theorem zero_77 : zeroC Try.prog 77 = some [.int .u64 0] := by kernel_rfl
@[simp] theorem zok_77 : zOk Try.prog 77 = true := by kernel_rfl
@[simp] theorem whole_77 (cs : List V) : whole Try.prog 77 cs = cs[0]? := by kernel_rfl
@[simp] theorem part_77 (cs : List V) (o : Nat) : partV Try.prog 77 cs o = cs[o]? := by kernel_rfl
@[simp] theorem cells_78 : Try.prog.cellsOf 78 = 1 := by kernel_rfl
@[simp] theorem bytes_78 : Try.prog.bytesOf 78 = 8 := by kernel_rfl
@[simp] theorem zero_78 : zeroC Try.prog 78 = some [(.raw .nilFunc)] := by kernel_rfl
@[simp] theorem zok_78 : zOk Try.prog 78 = true := by kernel_rfl
@[simp] theorem whole_78 (cs : List V) : whole Try.prog 78 cs = cs[0]? := by kernel_rfl
@[simp] theorem part_78 (cs : List V) (o : Nat) : partV Try.prog 78 cs o = cs[o]? := by kernel_rfl
@[simp] theorem cells_79 : Try.prog.cellsOf 79 = 1 := by kernel_rfl
@[simp] theorem bytes_79 : Try.prog.bytesOf 79 = 8 := by kernel_rfl
@[simp] theorem zero_79 : zeroC Try.prog 79 = some [(.raw .nilFunc)] := by kernel_rfl
@[simp] theorem zok_79 : zOk Try.prog 79 = true := by kernel_rfl
@[simp] theorem whole_79 (cs : List V) : whole Try.prog 79 cs = cs[0]? := by kernel_rfl
@[simp] theorem part_79 (cs : List V) (o : Nat) : partV Try.prog 79 cs o = cs[o]? := by kernel_rfl
@[simp] theorem cells_80 : Try.prog.cellsOf 80 = 1 := by kernel_rfl
@[simp] theorem bytes_80 : Try.prog.bytesOf 80 = 24 := by kernel_rfl
@[simp] theorem zero_80 : zeroC Try.prog 80 = some [.nil] := by kernel_rfl
@[simp] theorem zok_80 : zOk Try.prog 80 = true := by kernel_rfl
@[simp] theorem whole_80 (cs : List V) : whole Try.prog 80 cs = cs[0]? := by kernel_rfl
@[simp] theorem part_80 (cs : List V) (o : Nat) : partV Try.prog 80 cs o = cs[o]? := by kernel_rfl
@[simp] theorem elem_80 : elemT Try.prog 80 = (some (none, 84)) := by kernel_rfl
@[simp] theorem isS_80 : sliceT Try.prog 80 = true := by kernel_rfl
@[simp] theorem cells_82 : Try.prog.cellsOf 82 = 1 := by kernel_rfl
@[simp] theorem bytes_82 : Try.prog.bytesOf 82 = 8 := by kernel_rfl
@[simp] theorem zero_82 : zeroC Try.prog 82 = some [(.raw .nilFunc)] := by kernel_rfl
@[simp] theorem zok_82 : zOk Try.prog 82 = true := by kernel_rfl
@[simp] theorem whole_82 (cs : List V) : whole Try.prog 82 cs = cs[0]? := by kernel_rfl
@[simp] theorem part_82 (cs : List V) (o : Nat) : partV Try.prog 82 cs o = cs[o]? := by kernel_rfl
@[simp] theorem cells_83 : Try.prog.cellsOf 83 = 1 := by kernel_rfl
@[simp] theorem bytes_83 : Try.prog.bytesOf 83 = 8 := by kernel_rfl
@[simp] theorem zero_83 : zeroC Try.prog 83 = some [(.raw .nilFunc)] := by kernel_rfl
@[simp] theorem zok_83 : zOk Try.prog 83 = true := by kernel_rfl
@[simp] theorem whole_83 (cs : List V) : whole Try.prog 83 cs = cs[0]? := by kernel_rfl
@[simp] theorem part_83 (cs : List V) (o : Nat) : partV Try.prog 83 cs o = cs[o]? := by kernel_rfl
@[simp] theorem cells_84 : Try.prog.cellsOf 84 = 1 := by kernel_rfl
@[simp] theorem bytes_84 : Try.prog.bytesOf 84 = 24 := by kernel_rfl
@[simp] theorem zero_84 : zeroC Try.prog 84 = some [.nil] := by kernel_rfl
@[simp] theorem zok_84 : zOk Try.prog 84 = true := by kernel_rfl
@[simp] theorem whole_84 (cs : List V) : whole Try.prog 84 cs = cs[0]? := by kernel_rfl
@[simp] theorem part_84 (cs : List V) (o : Nat) : partV Try.prog 84 cs o = cs[o]? := by kernel_rfl
@[simp] theorem elem_84 : elemT Try.prog 84 = (some (none, 86)) := by kernel_rfl
@[simp] theorem isS_84 : sliceT Try.prog 84 = true := by kernel_rfl
@[simp] theorem cells_85 : Try.prog.cellsOf 85 = 5 := by kernel_rfl
@[simp] theorem bytes_85 : Try.prog.bytesOf 85 = 40 := by kernel_rfl
@[simp] theorem zero_85 : zeroC Try.prog 85 = some [.int .i64 0, .int .i64 0, .int .i64 0, .int .i64 0, .int .i64 0] := by kernel_rfl
@[simp] theorem zok_85 : zOk Try.prog 85 = true := by kernel_rfl
@[simp] theorem whole_85 (cs : List V) : whole Try.prog 85 cs = if 5 ≤ cs.length then some (.agg (cs.take 5)) else none := by kernel_rfl
@[simp] theorem part_85 (cs : List V) (o : Nat) : partV Try.prog 85 cs o = if o + 5 ≤ cs.length then some (.agg ((cs.drop o).take 5)) else none := by kernel_rfl
@[simp] theorem fld_85_0 : fieldP Try.prog 85 0 = some (3, 0) := by kernel_rfl
@[simp] theorem fld_85_1 : fieldP Try.prog 85 1 = some (33, 1) := by kernel_rfl
@[simp] theorem fld_85_2 : fieldP Try.prog 85 2 = some (33, 3) := by kernel_rfl
@[simp] theorem build_85 (ps : List (Nat × V)) : evBuild Try.prog 85 ps = if (ps.all fun p => flatOk p.2) = true then ma1 .agg (fillV (fun i => [(0, 1), (1, 2), (3, 2)][i]?) [.int .i64 0, .int .i64 0, .int .i64 0, .int .i64 0, .int .i64 0] ps) else none := build_of (by kernel_rfl) Try.underlying85 (by kernel_rfl) (by kernel_rfl) ps
@[simp] theorem cells_86 : Try.prog.cellsOf 86 = 5 := by kernel_rfl
@[simp] theorem bytes_86 : Try.prog.bytesOf 86 = 40 := by kernel_rfl
@[simp] theorem zero_86 : zeroC Try.prog 86 = some [.int .i64 0, .int .i64 0, .int .i64 0, .int .i64 0, .int .i64 0] := by kernel_rfl
@[simp] theorem zok_86 : zOk Try.prog 86 = true := by kernel_rfl
@[simp] theorem whole_86 (cs : List V) : whole Try.prog 86 cs = if 5 ≤ cs.length then some (.agg (cs.take 5)) else none := by kernel_rfl
@[simp] theorem part_86 (cs : List V) (o : Nat) : partV Try.prog 86 cs o = if o + 5 ≤ cs.length then some (.agg ((cs.drop o).take 5)) else none := by kernel_rfl
@[simp] theorem fld_86_0 : fieldP Try.prog 86 0 = some (3, 0) := by kernel_rfl
@[simp] theorem fld_86_1 : fieldP Try.prog 86 1 = some (33, 1) := by kernel_rfl
@[simp] theorem fld_86_2 : fieldP Try.prog 86 2 = some (33, 3) := by kernel_rfl
@[simp] theorem build_86 (ps : List (Nat × V)) : evBuild Try.prog 86 ps = if (ps.all fun p => flatOk p.2) = true then ma1 .agg (fillV (fun i => [(0, 1), (1, 2), (3, 2)][i]?) [.int .i64 0, .int .i64 0, .int .i64 0, .int .i64 0, .int .i64 0] ps) else none := build_of (by kernel_rfl) Try.underlying86 (by kernel_rfl) (by kernel_rfl) ps
@[simp] theorem cells_87 : Try.prog.cellsOf 87 = 1 := by kernel_rfl
@[simp] theorem bytes_87 : Try.prog.bytesOf 87 = 8 := by kernel_rfl
@[simp] theorem zero_87 : zeroC Try.prog 87 = some [(.raw .nilFunc)] := by kernel_rfl
@[simp] theorem zok_87 : zOk Try.prog 87 = true := by kernel_rfl
@[simp] theorem whole_87 (cs : List V) : whole Try.prog 87 cs = cs[0]? := by kernel_rfl
@[simp] theorem part_87 (cs : List V) (o : Nat) : partV Try.prog 87 cs o = cs[o]? := by kernel_rfl
@[simp] theorem cells_88 : Try.prog.cellsOf 88 = 1 := by kernel_rfl
@[simp] theorem bytes_88 : Try.prog.bytesOf 88 = 8 := by kernel_rfl
@[simp] theorem zero_88 : zeroC Try.prog 88 = some [(.raw .nilFunc)] := by kernel_rfl
@[simp] theorem zok_88 : zOk Try.prog 88 = true := by kernel_rfl
@[simp] theorem whole_88 (cs : List V) : whole Try.prog 88 cs = cs[0]? := by kernel_rfl
@[simp] theorem part_88 (cs : List V) (o : Nat) : partV Try.prog 88 cs o = cs[o]? := by kernel_rfl
@[simp] theorem cells_89 : Try.prog.cellsOf 89 = 2 := by kernel_rfl
@[simp] theorem bytes_89 : Try.prog.bytesOf 89 = 16 := by kernel_rfl
@[simp] theorem zero_89 : zeroC Try.prog 89 = some [.int .i64 0, .int .i64 0] := by kernel_rfl
@[simp] theorem zok_89 : zOk Try.prog 89 = true := by kernel_rfl
@[simp] theorem whole_89 (cs : List V) : whole Try.prog 89 cs = if 2 ≤ cs.length then some (.agg (cs.take 2)) else none := by kernel_rfl
@[simp] theorem part_89 (cs : List V) (o : Nat) : partV Try.prog 89 cs o = if o + 2 ≤ cs.length then some (.agg ((cs.drop o).take 2)) else none := by kernel_rfl
@[simp] theorem fld_89_0 : fieldP Try.prog 89 0 = some (3, 0) := by kernel_rfl
@[simp] theorem fld_89_1 : fieldP Try.prog 89 1 = some (3, 1) := by kernel_rfl
@[simp] theorem build_89 (ps : List (Nat × V)) : evBuild Try.prog 89 ps = if (ps.all fun p => flatOk p.2) = true then ma1 .agg (fillV (fun i => [(0, 1), (1, 1)][i]?) [.int .i64 0, .int .i64 0] ps) else none := build_of (by kernel_rfl) Try.underlying89 (by kernel_rfl) (by kernel_rfl) ps
@[simp] theorem cells_90 : Try.prog.cellsOf 90 = 1 := by kernel_rfl
@[simp] theorem bytes_90 : Try.prog.bytesOf 90 = 8 := by kernel_rfl
@[simp] theorem zero_90 : zeroC Try.prog 90 = some [(.raw .nilFunc)] := by kernel_rfl
@[simp] theorem zok_90 : zOk Try.prog 90 = true := by kernel_rfl
@[simp] theorem whole_90 (cs : List V) : whole Try.prog 90 cs = cs[0]? := by kernel_rfl
@[simp] theorem part_90 (cs : List V) (o : Nat) : partV Try.prog 90 cs o = cs[o]? := by kernel_rfl
@[simp] theorem cells_91 : Try.prog.cellsOf 91 = 1 := by kernel_rfl
@[simp] theorem bytes_91 : Try.prog.bytesOf 91 = 8 := by kernel_rfl
@[simp] theorem zero_91 : zeroC Try.prog 91 = some [(.raw .nilFunc)] := by kernel_rfl
@[simp] theorem zok_91 : zOk Try.prog 91 = true := by kernel_rfl
@[simp] theorem whole_91 (cs : List V) : whole Try.prog 91 cs = cs[0]? := by kernel_rfl
@[simp] theorem part_91 (cs : List V) (o : Nat) : partV Try.prog 91 cs o = cs[o]? := by kernel_rfl
@[simp] theorem cells_92 : Try.prog.cellsOf 92 = 1 := by kernel_rfl
@[simp] theorem bytes_92 : Try.prog.bytesOf 92 = 8 := by kernel_rfl
@[simp] theorem zero_92 : zeroC Try.prog 92 = some [(.raw .nilFunc)] := by kernel_rfl
@[simp] theorem zok_92 : zOk Try.prog 92 = true := by kernel_rfl
@[simp] theorem whole_92 (cs : List V) : whole Try.prog 92 cs = cs[0]? := by kernel_rfl
@[simp] theorem part_92 (cs : List V) (o : Nat) : partV Try.prog 92 cs o = cs[o]? := by kernel_rfl
@[simp] theorem cells_93 : Try.prog.cellsOf 93 = 1 := by kernel_rfl
@[simp] theorem bytes_93 : Try.prog.bytesOf 93 = 8 := by kernel_rfl
@[simp] theorem zero_93 : zeroC Try.prog 93 = some [(.raw (.pointer none))] := by kernel_rfl
@[simp] theorem zok_93 : zOk Try.prog 93 = true := by kernel_rfl
@[simp] theorem whole_93 (cs : List V) : whole Try.prog 93 cs = cs[0]? := by kernel_rfl
@[simp] theorem part_93 (cs : List V) (o : Nat) : partV Try.prog 93 cs o = cs[o]? := by kernel_rfl
@[simp] theorem cells_95 : Try.prog.cellsOf 95 = 1 := by kernel_rfl
@[simp] theorem bytes_95 : Try.prog.bytesOf 95 = 8 := by kernel_rfl
@[simp] theorem zero_95 : zeroC Try.prog 95 = some [(.raw .nilFunc)] := by kernel_rfl
@[simp] theorem zok_95 : zOk Try.prog 95 = true := by kernel_rfl
@[simp] theorem whole_95 (cs : List V) : whole Try.prog 95 cs = cs[0]? := by kernel_rfl
@[simp] theorem part_95 (cs : List V) (o : Nat) : partV Try.prog 95 cs o = cs[o]? := by kernel_rfl
@[simp] theorem cells_96 : Try.prog.cellsOf 96 = 1 := by kernel_rfl
@[simp] theorem bytes_96 : Try.prog.bytesOf 96 = 8 := by kernel_rfl
@[simp] theorem zero_96 : zeroC Try.prog 96 = some [(.raw .nilFunc)] := by kernel_rfl
@[simp] theorem zok_96 : zOk Try.prog 96 = true := by kernel_rfl
@[simp] theorem whole_96 (cs : List V) : whole Try.prog 96 cs = cs[0]? := by kernel_rfl
@[simp] theorem part_96 (cs : List V) (o : Nat) : partV Try.prog 96 cs o = cs[o]? := by kernel_rfl
@[simp] theorem cells_97 : Try.prog.cellsOf 97 = 1 := by kernel_rfl
@[simp] theorem bytes_97 : Try.prog.bytesOf 97 = 8 := by kernel_rfl
@[simp] theorem zero_97 : zeroC Try.prog 97 = some [(.raw .nilFunc)] := by kernel_rfl
@[simp] theorem zok_97 : zOk Try.prog 97 = true := by kernel_rfl
@[simp] theorem whole_97 (cs : List V) : whole Try.prog 97 cs = cs[0]? := by kernel_rfl
@[simp] theorem part_97 (cs : List V) (o : Nat) : partV Try.prog 97 cs o = cs[o]? := by kernel_rfl
@[simp] theorem cells_98 : Try.prog.cellsOf 98 = 1 := by kernel_rfl
@[simp] theorem bytes_98 : Try.prog.bytesOf 98 = 8 := by kernel_rfl
@[simp] theorem zero_98 : zeroC Try.prog 98 = some [(.raw .nilFunc)] := by kernel_rfl
@[simp] theorem zok_98 : zOk Try.prog 98 = true := by kernel_rfl
@[simp] theorem whole_98 (cs : List V) : whole Try.prog 98 cs = cs[0]? := by kernel_rfl
@[simp] theorem part_98 (cs : List V) (o : Nat) : partV Try.prog 98 cs o = cs[o]? := by kernel_rfl
@[simp] theorem cells_99 : Try.prog.cellsOf 99 = 1 := by kernel_rfl
@[simp] theorem bytes_99 : Try.prog.bytesOf 99 = 8 := by kernel_rfl
@[simp] theorem zero_99 : zeroC Try.prog 99 = some [(.raw .nilFunc)] := by kernel_rfl
@[simp] theorem zok_99 : zOk Try.prog 99 = true := by kernel_rfl
@[simp] theorem whole_99 (cs : List V) : whole Try.prog 99 cs = cs[0]? := by kernel_rfl
@[simp] theorem part_99 (cs : List V) (o : Nat) : partV Try.prog 99 cs o = cs[o]? := by kernel_rfl
@[simp] theorem cells_101 : Try.prog.cellsOf 101 = 1 := by kernel_rfl
@[simp] theorem bytes_101 : Try.prog.bytesOf 101 = 8 := by kernel_rfl
@[simp] theorem zero_101 : zeroC Try.prog 101 = some [(.raw .nilFunc)] := by kernel_rfl
@[simp] theorem zok_101 : zOk Try.prog 101 = true := by kernel_rfl
@[simp] theorem whole_101 (cs : List V) : whole Try.prog 101 cs = cs[0]? := by kernel_rfl
@[simp] theorem part_101 (cs : List V) (o : Nat) : partV Try.prog 101 cs o = cs[o]? := by kernel_rfl
@[simp] theorem cells_102 : Try.prog.cellsOf 102 = 3 := by kernel_rfl
@[simp] theorem bytes_102 : Try.prog.bytesOf 102 = 24 := by kernel_rfl
@[simp] theorem zero_102 : zeroC Try.prog 102 = some [.int .i64 0, .int .i64 0, .int .i64 0] := by kernel_rfl
@[simp] theorem zok_102 : zOk Try.prog 102 = true := by kernel_rfl
@[simp] theorem whole_102 (cs : List V) : whole Try.prog 102 cs = if 3 ≤ cs.length then some (.agg (cs.take 3)) else none := by kernel_rfl
@[simp] theorem part_102 (cs : List V) (o : Nat) : partV Try.prog 102 cs o = if o + 3 ≤ cs.length then some (.agg ((cs.drop o).take 3)) else none := by kernel_rfl
@[simp] theorem elem_102 : elemT Try.prog 102 = (some ((some 3), 3)) := by kernel_rfl
@[simp] theorem cells_103 : Try.prog.cellsOf 103 = 3 := by kernel_rfl
@[simp] theorem bytes_103 : Try.prog.bytesOf 103 = 24 := by kernel_rfl
@[simp] theorem zero_103 : zeroC Try.prog 103 = some [.int .i64 0, .int .i64 0, .int .i64 0] := by kernel_rfl
@[simp] theorem zok_103 : zOk Try.prog 103 = true := by kernel_rfl
@[simp] theorem whole_103 (cs : List V) : whole Try.prog 103 cs = if 3 ≤ cs.length then some (.agg (cs.take 3)) else none := by kernel_rfl
@[simp] theorem part_103 (cs : List V) (o : Nat) : partV Try.prog 103 cs o = if o + 3 ≤ cs.length then some (.agg ((cs.drop o).take 3)) else none := by kernel_rfl
@[simp] theorem elem_103 : elemT Try.prog 103 = (some ((some 3), 3)) := by kernel_rfl
@[simp] theorem cells_104 : Try.prog.cellsOf 104 = 1 := by kernel_rfl
@[simp] theorem bytes_104 : Try.prog.bytesOf 104 = 8 := by kernel_rfl
@[simp] theorem zero_104 : zeroC Try.prog 104 = some [(.raw .nilFunc)] := by kernel_rfl
@[simp] theorem zok_104 : zOk Try.prog 104 = true := by kernel_rfl
@[simp] theorem whole_104 (cs : List V) : whole Try.prog 104 cs = cs[0]? := by kernel_rfl
@[simp] theorem part_104 (cs : List V) (o : Nat) : partV Try.prog 104 cs o = cs[o]? := by kernel_rfl
@[simp] theorem cells_105 : Try.prog.cellsOf 105 = 5 := by kernel_rfl
@[simp] theorem bytes_105 : Try.prog.bytesOf 105 = 40 := by kernel_rfl
@[simp] theorem zero_105 : zeroC Try.prog 105 = some [.int .i64 0, .int .i64 0, .int .i64 0, .int .i64 0, .int .i64 0] := by kernel_rfl
@[simp] theorem zok_105 : zOk Try.prog 105 = true := by kernel_rfl
@[simp] theorem whole_105 (cs : List V) : whole Try.prog 105 cs = if 5 ≤ cs.length then some (.agg (cs.take 5)) else none := by kernel_rfl
@[simp] theorem part_105 (cs : List V) (o : Nat) : partV Try.prog 105 cs o = if o + 5 ≤ cs.length then some (.agg ((cs.drop o).take 5)) else none := by kernel_rfl
@[simp] theorem fld_105_0 : fieldP Try.prog 105 0 = some (3, 0) := by kernel_rfl
@[simp] theorem fld_105_1 : fieldP Try.prog 105 1 = some (3, 1) := by kernel_rfl
@[simp] theorem fld_105_2 : fieldP Try.prog 105 2 = some (103, 2) := by kernel_rfl
@[simp] theorem build_105 (ps : List (Nat × V)) : evBuild Try.prog 105 ps = if (ps.all fun p => flatOk p.2) = true then ma1 .agg (fillV (fun i => [(0, 1), (1, 1), (2, 3)][i]?) [.int .i64 0, .int .i64 0, .int .i64 0, .int .i64 0, .int .i64 0] ps) else none := build_of (by kernel_rfl) Try.underlying105 (by kernel_rfl) (by kernel_rfl) ps
@[simp] theorem cells_106 : Try.prog.cellsOf 106 = 5 := by kernel_rfl
@[simp] theorem bytes_106 : Try.prog.bytesOf 106 = 40 := by kernel_rfl
@[simp] theorem zero_106 : zeroC Try.prog 106 = some [.int .i64 0, .int .i64 0, .int .i64 0, .int .i64 0, .int .i64 0] := by kernel_rfl
@[simp] theorem zok_106 : zOk Try.prog 106 = true := by kernel_rfl
@[simp] theorem whole_106 (cs : List V) : whole Try.prog 106 cs = if 5 ≤ cs.length then some (.agg (cs.take 5)) else none := by kernel_rfl
@[simp] theorem part_106 (cs : List V) (o : Nat) : partV Try.prog 106 cs o = if o + 5 ≤ cs.length then some (.agg ((cs.drop o).take 5)) else none := by kernel_rfl
@[simp] theorem fld_106_0 : fieldP Try.prog 106 0 = some (3, 0) := by kernel_rfl
@[simp] theorem fld_106_1 : fieldP Try.prog 106 1 = some (3, 1) := by kernel_rfl
@[simp] theorem fld_106_2 : fieldP Try.prog 106 2 = some (103, 2) := by kernel_rfl
@[simp] theorem build_106 (ps : List (Nat × V)) : evBuild Try.prog 106 ps = if (ps.all fun p => flatOk p.2) = true then ma1 .agg (fillV (fun i => [(0, 1), (1, 1), (2, 3)][i]?) [.int .i64 0, .int .i64 0, .int .i64 0, .int .i64 0, .int .i64 0] ps) else none := build_of (by kernel_rfl) Try.underlying106 (by kernel_rfl) (by kernel_rfl) ps
@[simp] theorem cells_107 : Try.prog.cellsOf 107 = 4 := by kernel_rfl
@[simp] theorem bytes_107 : Try.prog.bytesOf 107 = 32 := by kernel_rfl
@[simp] theorem zero_107 : zeroC Try.prog 107 = some [.int .i64 0, .int .i64 0, .int .i64 0, .int .i64 0] := by kernel_rfl
@[simp] theorem zok_107 : zOk Try.prog 107 = true := by kernel_rfl
@[simp] theorem whole_107 (cs : List V) : whole Try.prog 107 cs = if 4 ≤ cs.length then some (.agg (cs.take 4)) else none := by kernel_rfl
@[simp] theorem part_107 (cs : List V) (o : Nat) : partV Try.prog 107 cs o = if o + 4 ≤ cs.length then some (.agg ((cs.drop o).take 4)) else none := by kernel_rfl
@[simp] theorem fld_107_0 : fieldP Try.prog 107 0 = some (3, 0) := by kernel_rfl
@[simp] theorem fld_107_1 : fieldP Try.prog 107 1 = some (103, 1) := by kernel_rfl
@[simp] theorem build_107 (ps : List (Nat × V)) : evBuild Try.prog 107 ps = if (ps.all fun p => flatOk p.2) = true then ma1 .agg (fillV (fun i => [(0, 1), (1, 3)][i]?) [.int .i64 0, .int .i64 0, .int .i64 0, .int .i64 0] ps) else none := build_of (by kernel_rfl) Try.underlying107 (by kernel_rfl) (by kernel_rfl) ps
@[simp] theorem cells_108 : Try.prog.cellsOf 108 = 4 := by kernel_rfl
@[simp] theorem bytes_108 : Try.prog.bytesOf 108 = 32 := by kernel_rfl
@[simp] theorem zero_108 : zeroC Try.prog 108 = some [.int .i64 0, .int .i64 0, .int .i64 0, .int .i64 0] := by kernel_rfl
@[simp] theorem zok_108 : zOk Try.prog 108 = true := by kernel_rfl
@[simp] theorem whole_108 (cs : List V) : whole Try.prog 108 cs = if 4 ≤ cs.length then some (.agg (cs.take 4)) else none := by kernel_rfl
@[simp] theorem part_108 (cs : List V) (o : Nat) : partV Try.prog 108 cs o = if o + 4 ≤ cs.length then some (.agg ((cs.drop o).take 4)) else none := by kernel_rfl
@[simp] theorem fld_108_0 : fieldP Try.prog 108 0 = some (3, 0) := by kernel_rfl
@[simp] theorem fld_108_1 : fieldP Try.prog 108 1 = some (103, 1) := by kernel_rfl
@[simp] theorem build_108 (ps : List (Nat × V)) : evBuild Try.prog 108 ps = if (ps.all fun p => flatOk p.2) = true then ma1 .agg (fillV (fun i => [(0, 1), (1, 3)][i]?) [.int .i64 0, .int .i64 0, .int .i64 0, .int .i64 0] ps) else none := build_of (by kernel_rfl) Try.underlying108 (by kernel_rfl) (by kernel_rfl) ps
@[simp] theorem cells_109 : Try.prog.cellsOf 109 = 1 := by kernel_rfl
@[simp] theorem bytes_109 : Try.prog.bytesOf 109 = 8 := by kernel_rfl
@[simp] theorem zero_109 : zeroC Try.prog 109 = some [(.raw .nilFunc)] := by kernel_rfl
@[simp] theorem zok_109 : zOk Try.prog 109 = true := by kernel_rfl
@[simp] theorem whole_109 (cs : List V) : whole Try.prog 109 cs = cs[0]? := by kernel_rfl
@[simp] theorem part_109 (cs : List V) (o : Nat) : partV Try.prog 109 cs o = cs[o]? := by kernel_rfl
@[simp] theorem cells_110 : Try.prog.cellsOf 110 = 1 := by kernel_rfl
@[simp] theorem bytes_110 : Try.prog.bytesOf 110 = 8 := by kernel_rfl
@[simp] theorem zero_110 : zeroC Try.prog 110 = some [(.raw .nilFunc)] := by kernel_rfl
@[simp] theorem zok_110 : zOk Try.prog 110 = true := by kernel_rfl
@[simp] theorem whole_110 (cs : List V) : whole Try.prog 110 cs = cs[0]? := by kernel_rfl
@[simp] theorem part_110 (cs : List V) (o : Nat) : partV Try.prog 110 cs o = cs[o]? := by kernel_rfl
@[simp] theorem cells_111 : Try.prog.cellsOf 111 = 1 := by kernel_rfl
@[simp] theorem bytes_111 : Try.prog.bytesOf 111 = 8 := by kernel_rfl
@[simp] theorem zero_111 : zeroC Try.prog 111 = some [(.raw (.map none))] := by kernel_rfl
@[simp] theorem zok_111 : zOk Try.prog 111 = true := by kernel_rfl
@[simp] theorem whole_111 (cs : List V) : whole Try.prog 111 cs = cs[0]? := by kernel_rfl
@[simp] theorem part_111 (cs : List V) (o : Nat) : partV Try.prog 111 cs o = cs[o]? := by kernel_rfl
@[simp] theorem cells_112 : Try.prog.cellsOf 112 = 1 := by kernel_rfl
@[simp] theorem bytes_112 : Try.prog.bytesOf 112 = 8 := by kernel_rfl
@[simp] theorem zero_112 : zeroC Try.prog 112 = some [(.raw (.map none))] := by kernel_rfl
@[simp] theorem zok_112 : zOk Try.prog 112 = true := by kernel_rfl
@[simp] theorem whole_112 (cs : List V) : whole Try.prog 112 cs = cs[0]? := by kernel_rfl
@[simp] theorem part_112 (cs : List V) (o : Nat) : partV Try.prog 112 cs o = cs[o]? := by kernel_rfl
@[simp] theorem cells_113 : Try.prog.cellsOf 113 = 12 := by kernel_rfl
@[simp] theorem bytes_113 : Try.prog.bytesOf 113 = 192 := by kernel_rfl
@[simp] theorem zero_113 : zeroC Try.prog 113 = some [.int .i64 0, .int .i64 0, .int .i64 0, .int .i64 0, .nil, .nil, .nil, .nil, .nil, .nil, (.raw (.map none)), (.raw (.map none))] := by kernel_rfl
@[simp] theorem zok_113 : zOk Try.prog 113 = true := by kernel_rfl
@[simp] theorem whole_113 (cs : List V) : whole Try.prog 113 cs = if 12 ≤ cs.length then some (.agg (cs.take 12)) else none := by kernel_rfl
@[simp] theorem part_113 (cs : List V) (o : Nat) : partV Try.prog 113 cs o = if o + 12 ≤ cs.length then some (.agg ((cs.drop o).take 12)) else none := by kernel_rfl
@[simp] theorem fld_113_0 : fieldP Try.prog 113 0 = some (40, 0) := by kernel_rfl
@[simp] theorem fld_113_1 : fieldP Try.prog 113 1 = some (23, 9) := by kernel_rfl
@[simp] theorem fld_113_2 : fieldP Try.prog 113 2 = some (111, 10) := by kernel_rfl
@[simp] theorem fld_113_3 : fieldP Try.prog 113 3 = some (112, 11) := by kernel_rfl
@[simp] theorem build_113 (ps : List (Nat × V)) : evBuild Try.prog 113 ps = if (ps.all fun p => flatOk p.2) = true then ma1 .agg (fillV (fun i => [(0, 9), (9, 1), (10, 1), (11, 1)][i]?) [.int .i64 0, .int .i64 0, .int .i64 0, .int .i64 0, .nil, .nil, .nil, .nil, .nil, .nil, (.raw (.map none)), (.raw (.map none))] ps) else none := build_of (by kernel_rfl) Try.underlying113 (by kernel_rfl) (by kernel_rfl) ps
@[simp] theorem cells_114 : Try.prog.cellsOf 114 = 12 := by kernel_rfl
@[simp] theorem bytes_114 : Try.prog.bytesOf 114 = 192 := by kernel_rfl
@[simp] theorem zero_114 : zeroC Try.prog 114 = some [.int .i64 0, .int .i64 0, .int .i64 0, .int .i64 0, .nil, .nil, .nil, .nil, .nil, .nil, (.raw (.map none)), (.raw (.map none))] := by kernel_rfl
@[simp] theorem zok_114 : zOk Try.prog 114 = true := by kernel_rfl
@[simp] theorem whole_114 (cs : List V) : whole Try.prog 114 cs = if 12 ≤ cs.length then some (.agg (cs.take 12)) else none := by kernel_rfl
@[simp] theorem part_114 (cs : List V) (o : Nat) : partV Try.prog 114 cs o = if o + 12 ≤ cs.length then some (.agg ((cs.drop o).take 12)) else none := by kernel_rfl
@[simp] theorem fld_114_0 : fieldP Try.prog 114 0 = some (40, 0) := by kernel_rfl
@[simp] theorem fld_114_1 : fieldP Try.prog 114 1 = some (23, 9) := by kernel_rfl
@[simp] theorem fld_114_2 : fieldP Try.prog 114 2 = some (111, 10) := by kernel_rfl
@[simp] theorem fld_114_3 : fieldP Try.prog 114 3 = some (112, 11) := by kernel_rfl
@[simp] theorem build_114 (ps : List (Nat × V)) : evBuild Try.prog 114 ps = if (ps.all fun p => flatOk p.2) = true then ma1 .agg (fillV (fun i => [(0, 9), (9, 1), (10, 1), (11, 1)][i]?) [.int .i64 0, .int .i64 0, .int .i64 0, .int .i64 0, .nil, .nil, .nil, .nil, .nil, .nil, (.raw (.map none)), (.raw (.map none))] ps) else none := build_of (by kernel_rfl) Try.underlying114 (by kernel_rfl) (by kernel_rfl) ps
@[simp] theorem cells_115 : Try.prog.cellsOf 115 = 1 := by kernel_rfl
@[simp] theorem bytes_115 : Try.prog.bytesOf 115 = 8 := by kernel_rfl
@[simp] theorem zero_115 : zeroC Try.prog 115 = some [(.raw .nilFunc)] := by kernel_rfl
@[simp] theorem zok_115 : zOk Try.prog 115 = true := by kernel_rfl
@[simp] theorem whole_115 (cs : List V) : whole Try.prog 115 cs = cs[0]? := by kernel_rfl
@[simp] theorem part_115 (cs : List V) (o : Nat) : partV Try.prog 115 cs o = cs[o]? := by kernel_rfl
@[simp] theorem cells_116 : Try.prog.cellsOf 116 = 1 := by kernel_rfl
@[simp] theorem bytes_116 : Try.prog.bytesOf 116 = 8 := by kernel_rfl
@[simp] theorem zero_116 : zeroC Try.prog 116 = some [(.raw .nilFunc)] := by kernel_rfl
@[simp] theorem zok_116 : zOk Try.prog 116 = true := by kernel_rfl
@[simp] theorem whole_116 (cs : List V) : whole Try.prog 116 cs = cs[0]? := by kernel_rfl
@[simp] theorem part_116 (cs : List V) (o : Nat) : partV Try.prog 116 cs o = cs[o]? := by kernel_rfl
@[simp] theorem cells_117 : Try.prog.cellsOf 117 = 1 := by kernel_rfl
@[simp] theorem bytes_117 : Try.prog.bytesOf 117 = 8 := by kernel_rfl
@[simp] theorem zero_117 : zeroC Try.prog 117 = some [(.raw .nilFunc)] := by kernel_rfl
@[simp] theorem zok_117 : zOk Try.prog 117 = true := by kernel_rfl
@[simp] theorem whole_117 (cs : List V) : whole Try.prog 117 cs = cs[0]? := by kernel_rfl
@[simp] theorem part_117 (cs : List V) (o : Nat) : partV Try.prog 117 cs o = cs[o]? := by kernel_rfl
@[simp] theorem cells_118 : Try.prog.cellsOf 118 = 1 := by kernel_rfl
@[simp] theorem bytes_118 : Try.prog.bytesOf 118 = 8 := by kernel_rfl
@[simp] theorem zero_118 : zeroC Try.prog 118 = some [(.raw .nilFunc)] := by kernel_rfl
@[simp] theorem zok_118 : zOk Try.prog 118 = true := by kernel_rfl
@[simp] theorem whole_118 (cs : List V) : whole Try.prog 118 cs = cs[0]? := by kernel_rfl
@[simp] theorem part_118 (cs : List V) (o : Nat) : partV Try.prog 118 cs o = cs[o]? := by kernel_rfl
@[simp] theorem cells_119 : Try.prog.cellsOf 119 = 1 := by kernel_rfl
@[simp] theorem bytes_119 : Try.prog.bytesOf 119 = 8 := by kernel_rfl
@[simp] theorem zero_119 : zeroC Try.prog 119 = some [(.raw .nilFunc)] := by kernel_rfl
@[simp] theorem zok_119 : zOk Try.prog 119 = true := by kernel_rfl
@[simp] theorem whole_119 (cs : List V) : whole Try.prog 119 cs = cs[0]? := by kernel_rfl
@[simp] theorem part_119 (cs : List V) (o : Nat) : partV Try.prog 119 cs o = cs[o]? := by kernel_rfl
@[simp] theorem cells_120 : Try.prog.cellsOf 120 = 1 := by kernel_rfl
@[simp] theorem bytes_120 : Try.prog.bytesOf 120 = 8 := by kernel_rfl
@[simp] theorem zero_120 : zeroC Try.prog 120 = some [(.raw .nilFunc)] := by kernel_rfl
@[simp] theorem zok_120 : zOk Try.prog 120 = true := by kernel_rfl
@[simp] theorem whole_120 (cs : List V) : whole Try.prog 120 cs = cs[0]? := by kernel_rfl
@[simp] theorem part_120 (cs : List V) (o : Nat) : partV Try.prog 120 cs o = cs[o]? := by kernel_rfl
@[simp] theorem cells_121 : Try.prog.cellsOf 121 = 1 := by kernel_rfl
@[simp] theorem bytes_121 : Try.prog.bytesOf 121 = 8 := by kernel_rfl
@[simp] theorem zero_121 : zeroC Try.prog 121 = some [(.raw .nilFunc)] := by kernel_rfl
@[simp] theorem zok_121 : zOk Try.prog 121 = true := by kernel_rfl
@[simp] theorem whole_121 (cs : List V) : whole Try.prog 121 cs = cs[0]? := by kernel_rfl
@[simp] theorem part_121 (cs : List V) (o : Nat) : partV Try.prog 121 cs o = cs[o]? := by kernel_rfl
@[simp] theorem cells_122 : Try.prog.cellsOf 122 = 1 := by kernel_rfl
@[simp] theorem bytes_122 : Try.prog.bytesOf 122 = 8 := by kernel_rfl
@[simp] theorem zero_122 : zeroC Try.prog 122 = some [(.raw .nilFunc)] := by kernel_rfl
@[simp] theorem zok_122 : zOk Try.prog 122 = true := by kernel_rfl
@[simp] theorem whole_122 (cs : List V) : whole Try.prog 122 cs = if 1 ≤ cs.length then some (.agg (cs.take 1)) else none := by kernel_rfl
@[simp] theorem part_122 (cs : List V) (o : Nat) : partV Try.prog 122 cs o = if o + 1 ≤ cs.length then some (.agg ((cs.drop o).take 1)) else none := by kernel_rfl
@[simp] theorem fld_122_0 : fieldP Try.prog 122 0 = some (120, 0) := by kernel_rfl
@[simp] theorem build_122 (ps : List (Nat × V)) : evBuild Try.prog 122 ps = if (ps.all fun p => flatOk p.2) = true then ma1 .agg (fillV (fun i => [(0, 1)][i]?) [(.raw .nilFunc)] ps) else none := build_of (by kernel_rfl) Try.underlying122 (by kernel_rfl) (by kernel_rfl) ps
@[simp] theorem cells_123 : Try.prog.cellsOf 123 = 1 := by kernel_rfl
@[simp] theorem bytes_123 : Try.prog.bytesOf 123 = 8 := by kernel_rfl
@[simp] theorem zero_123 : zeroC Try.prog 123 = some [(.raw .nilFunc)] := by kernel_rfl
@[simp] theorem zok_123 : zOk Try.prog 123 = true := by kernel_rfl
@[simp] theorem whole_123 (cs : List V) : whole Try.prog 123 cs = if 1 ≤ cs.length then some (.agg (cs.take 1)) else none := by kernel_rfl
@[simp] theorem part_123 (cs : List V) (o : Nat) : partV Try.prog 123 cs o = if o + 1 ≤ cs.length then some (.agg ((cs.drop o).take 1)) else none := by kernel_rfl
@[simp] theorem fld_123_0 : fieldP Try.prog 123 0 = some (120, 0) := by kernel_rfl
@[simp] theorem build_123 (ps : List (Nat × V)) : evBuild Try.prog 123 ps = if (ps.all fun p => flatOk p.2) = true then ma1 .agg (fillV (fun i => [(0, 1)][i]?) [(.raw .nilFunc)] ps) else none := build_of (by kernel_rfl) Try.underlying123 (by kernel_rfl) (by kernel_rfl) ps
@[simp] theorem cells_124 : Try.prog.cellsOf 124 = 1 := by kernel_rfl
@[simp] theorem bytes_124 : Try.prog.bytesOf 124 = 8 := by kernel_rfl
@[simp] theorem zero_124 : zeroC Try.prog 124 = some [(.raw .nilFunc)] := by kernel_rfl
@[simp] theorem zok_124 : zOk Try.prog 124 = true := by kernel_rfl
@[simp] theorem whole_124 (cs : List V) : whole Try.prog 124 cs = cs[0]? := by kernel_rfl
@[simp] theorem part_124 (cs : List V) (o : Nat) : partV Try.prog 124 cs o = cs[o]? := by kernel_rfl
@[simp] theorem cells_125 : Try.prog.cellsOf 125 = 1 := by kernel_rfl
@[simp] theorem bytes_125 : Try.prog.bytesOf 125 = 8 := by kernel_rfl
@[simp] theorem zero_125 : zeroC Try.prog 125 = some [(.raw .nilFunc)] := by kernel_rfl
@[simp] theorem zok_125 : zOk Try.prog 125 = true := by kernel_rfl
@[simp] theorem whole_125 (cs : List V) : whole Try.prog 125 cs = cs[0]? := by kernel_rfl
@[simp] theorem part_125 (cs : List V) (o : Nat) : partV Try.prog 125 cs o = cs[o]? := by kernel_rfl
@[simp] theorem cells_126 : Try.prog.cellsOf 126 = 1 := by kernel_rfl
@[simp] theorem bytes_126 : Try.prog.bytesOf 126 = 8 := by kernel_rfl
@[simp] theorem zero_126 : zeroC Try.prog 126 = some [(.raw .nilFunc)] := by kernel_rfl
@[simp] theorem zok_126 : zOk Try.prog 126 = true := by kernel_rfl
@[simp] theorem whole_126 (cs : List V) : whole Try.prog 126 cs = cs[0]? := by kernel_rfl
@[simp] theorem part_126 (cs : List V) (o : Nat) : partV Try.prog 126 cs o = cs[o]? := by kernel_rfl
@[simp] theorem cells_127 : Try.prog.cellsOf 127 = 1 := by kernel_rfl
@[simp] theorem bytes_127 : Try.prog.bytesOf 127 = 8 := by kernel_rfl
@[simp] theorem zero_127 : zeroC Try.prog 127 = some [(.raw .nilFunc)] := by kernel_rfl
@[simp] theorem zok_127 : zOk Try.prog 127 = true := by kernel_rfl
@[simp] theorem whole_127 (cs : List V) : whole Try.prog 127 cs = cs[0]? := by kernel_rfl
@[simp] theorem part_127 (cs : List V) (o : Nat) : partV Try.prog 127 cs o = cs[o]? := by kernel_rfl
@[simp] theorem cells_128 : Try.prog.cellsOf 128 = 1 := by kernel_rfl
@[simp] theorem bytes_128 : Try.prog.bytesOf 128 = 8 := by kernel_rfl
@[simp] theorem zero_128 : zeroC Try.prog 128 = some [(.raw .nilFunc)] := by kernel_rfl
@[simp] theorem zok_128 : zOk Try.prog 128 = true := by kernel_rfl
@[simp] theorem whole_128 (cs : List V) : whole Try.prog 128 cs = cs[0]? := by kernel_rfl
@[simp] theorem part_128 (cs : List V) (o : Nat) : partV Try.prog 128 cs o = cs[o]? := by kernel_rfl
@[simp] theorem cells_129 : Try.prog.cellsOf 129 = 1 := by kernel_rfl
@[simp] theorem bytes_129 : Try.prog.bytesOf 129 = 8 := by kernel_rfl
@[simp] theorem zero_129 : zeroC Try.prog 129 = some [(.raw .nilFunc)] := by kernel_rfl
@[simp] theorem zok_129 : zOk Try.prog 129 = true := by kernel_rfl
@[simp] theorem whole_129 (cs : List V) : whole Try.prog 129 cs = cs[0]? := by kernel_rfl
@[simp] theorem part_129 (cs : List V) (o : Nat) : partV Try.prog 129 cs o = cs[o]? := by kernel_rfl
@[simp] theorem cells_130 : Try.prog.cellsOf 130 = 1 := by kernel_rfl
@[simp] theorem bytes_130 : Try.prog.bytesOf 130 = 8 := by kernel_rfl
@[simp] theorem zero_130 : zeroC Try.prog 130 = some [(.raw .nilFunc)] := by kernel_rfl
@[simp] theorem zok_130 : zOk Try.prog 130 = true := by kernel_rfl
@[simp] theorem whole_130 (cs : List V) : whole Try.prog 130 cs = cs[0]? := by kernel_rfl
@[simp] theorem part_130 (cs : List V) (o : Nat) : partV Try.prog 130 cs o = cs[o]? := by kernel_rfl
@[simp] theorem cells_131 : Try.prog.cellsOf 131 = 1 := by kernel_rfl
@[simp] theorem bytes_131 : Try.prog.bytesOf 131 = 8 := by kernel_rfl
@[simp] theorem zero_131 : zeroC Try.prog 131 = some [(.raw .nilFunc)] := by kernel_rfl
@[simp] theorem zok_131 : zOk Try.prog 131 = true := by kernel_rfl
@[simp] theorem whole_131 (cs : List V) : whole Try.prog 131 cs = cs[0]? := by kernel_rfl
@[simp] theorem part_131 (cs : List V) (o : Nat) : partV Try.prog 131 cs o = cs[o]? := by kernel_rfl
@[simp] theorem cells_132 : Try.prog.cellsOf 132 = 1 := by kernel_rfl
@[simp] theorem bytes_132 : Try.prog.bytesOf 132 = 8 := by kernel_rfl
@[simp] theorem zero_132 : zeroC Try.prog 132 = some [(.raw .nilFunc)] := by kernel_rfl
@[simp] theorem zok_132 : zOk Try.prog 132 = true := by kernel_rfl
@[simp] theorem whole_132 (cs : List V) : whole Try.prog 132 cs = cs[0]? := by kernel_rfl
@[simp] theorem part_132 (cs : List V) (o : Nat) : partV Try.prog 132 cs o = cs[o]? := by kernel_rfl
@[simp] theorem cells_133 : Try.prog.cellsOf 133 = 1 := by kernel_rfl
@[simp] theorem bytes_133 : Try.prog.bytesOf 133 = 8 := by kernel_rfl
@[simp] theorem zero_133 : zeroC Try.prog 133 = some [(.raw .nilFunc)] := by kernel_rfl
@[simp] theorem zok_133 : zOk Try.prog 133 = true := by kernel_rfl
@[simp] theorem whole_133 (cs : List V) : whole Try.prog 133 cs = cs[0]? := by kernel_rfl
@[simp] theorem part_133 (cs : List V) (o : Nat) : partV Try.prog 133 cs o = cs[o]? := by kernel_rfl
@[simp] theorem cells_134 : Try.prog.cellsOf 134 = 1 := by kernel_rfl
@[simp] theorem bytes_134 : Try.prog.bytesOf 134 = 8 := by kernel_rfl
@[simp] theorem zero_134 : zeroC Try.prog 134 = some [(.raw .nilFunc)] := by kernel_rfl
@[simp] theorem zok_134 : zOk Try.prog 134 = true := by kernel_rfl
@[simp] theorem whole_134 (cs : List V) : whole Try.prog 134 cs = cs[0]? := by kernel_rfl
@[simp] theorem part_134 (cs : List V) (o : Nat) : partV Try.prog 134 cs o = cs[o]? := by kernel_rfl
@[simp] theorem cells_135 : Try.prog.cellsOf 135 = 1 := by kernel_rfl
@[simp] theorem bytes_135 : Try.prog.bytesOf 135 = 8 := by kernel_rfl
@[simp] theorem zero_135 : zeroC Try.prog 135 = some [(.raw .nilFunc)] := by kernel_rfl
@[simp] theorem zok_135 : zOk Try.prog 135 = true := by kernel_rfl
@[simp] theorem whole_135 (cs : List V) : whole Try.prog 135 cs = cs[0]? := by kernel_rfl
@[simp] theorem part_135 (cs : List V) (o : Nat) : partV Try.prog 135 cs o = cs[o]? := by kernel_rfl
@[simp] theorem cells_137 : Try.prog.cellsOf 137 = 1 := by kernel_rfl
@[simp] theorem bytes_137 : Try.prog.bytesOf 137 = 8 := by kernel_rfl
@[simp] theorem zero_137 : zeroC Try.prog 137 = some [(.raw .nilFunc)] := by kernel_rfl
@[simp] theorem zok_137 : zOk Try.prog 137 = true := by kernel_rfl
@[simp] theorem whole_137 (cs : List V) : whole Try.prog 137 cs = cs[0]? := by kernel_rfl
@[simp] theorem part_137 (cs : List V) (o : Nat) : partV Try.prog 137 cs o = cs[o]? := by kernel_rfl
@[simp] theorem cells_138 : Try.prog.cellsOf 138 = 1 := by kernel_rfl
@[simp] theorem bytes_138 : Try.prog.bytesOf 138 = 8 := by kernel_rfl
@[simp] theorem zero_138 : zeroC Try.prog 138 = some [(.raw .nilFunc)] := by kernel_rfl
@[simp] theorem zok_138 : zOk Try.prog 138 = true := by kernel_rfl
@[simp] theorem whole_138 (cs : List V) : whole Try.prog 138 cs = cs[0]? := by kernel_rfl
@[simp] theorem part_138 (cs : List V) (o : Nat) : partV Try.prog 138 cs o = cs[o]? := by kernel_rfl
@[simp] theorem cells_139 : Try.prog.cellsOf 139 = 1 := by kernel_rfl
@[simp] theorem bytes_139 : Try.prog.bytesOf 139 = 8 := by kernel_rfl
@[simp] theorem zero_139 : zeroC Try.prog 139 = some [(.raw .nilFunc)] := by kernel_rfl
@[simp] theorem zok_139 : zOk Try.prog 139 = true := by kernel_rfl
@[simp] theorem whole_139 (cs : List V) : whole Try.prog 139 cs = cs[0]? := by kernel_rfl
@[simp] theorem part_139 (cs : List V) (o : Nat) : partV Try.prog 139 cs o = cs[o]? := by kernel_rfl
@[simp] theorem cells_140 : Try.prog.cellsOf 140 = 1 := by kernel_rfl
@[simp] theorem bytes_140 : Try.prog.bytesOf 140 = 8 := by kernel_rfl
@[simp] theorem zero_140 : zeroC Try.prog 140 = some [(.raw .nilFunc)] := by kernel_rfl
@[simp] theorem zok_140 : zOk Try.prog 140 = true := by kernel_rfl
@[simp] theorem whole_140 (cs : List V) : whole Try.prog 140 cs = cs[0]? := by kernel_rfl
@[simp] theorem part_140 (cs : List V) (o : Nat) : partV Try.prog 140 cs o = cs[o]? := by kernel_rfl
@[simp] theorem cells_141 : Try.prog.cellsOf 141 = 1 := by kernel_rfl
@[simp] theorem bytes_141 : Try.prog.bytesOf 141 = 8 := by kernel_rfl
@[simp] theorem zero_141 : zeroC Try.prog 141 = some [(.raw .nilFunc)] := by kernel_rfl
@[simp] theorem zok_141 : zOk Try.prog 141 = true := by kernel_rfl
@[simp] theorem whole_141 (cs : List V) : whole Try.prog 141 cs = cs[0]? := by kernel_rfl
@[simp] theorem part_141 (cs : List V) (o : Nat) : partV Try.prog 141 cs o = cs[o]? := by kernel_rfl
@[simp] theorem cells_142 : Try.prog.cellsOf 142 = 1 := by kernel_rfl
@[simp] theorem bytes_142 : Try.prog.bytesOf 142 = 8 := by kernel_rfl
@[simp] theorem zero_142 : zeroC Try.prog 142 = some [(.raw .nilFunc)] := by kernel_rfl
@[simp] theorem zok_142 : zOk Try.prog 142 = true := by kernel_rfl
@[simp] theorem whole_142 (cs : List V) : whole Try.prog 142 cs = cs[0]? := by kernel_rfl
@[simp] theorem part_142 (cs : List V) (o : Nat) : partV Try.prog 142 cs o = cs[o]? := by kernel_rfl
@[simp] theorem cells_143 : Try.prog.cellsOf 143 = 1 := by kernel_rfl
@[simp] theorem bytes_143 : Try.prog.bytesOf 143 = 8 := by kernel_rfl
@[simp] theorem zero_143 : zeroC Try.prog 143 = some [(.raw .nilFunc)] := by kernel_rfl
@[simp] theorem zok_143 : zOk Try.prog 143 = true := by kernel_rfl
@[simp] theorem whole_143 (cs : List V) : whole Try.prog 143 cs = cs[0]? := by kernel_rfl
@[simp] theorem part_143 (cs : List V) (o : Nat) : partV Try.prog 143 cs o = cs[o]? := by kernel_rfl
@[simp] theorem cells_144 : Try.prog.cellsOf 144 = 1 := by kernel_rfl
@[simp] theorem bytes_144 : Try.prog.bytesOf 144 = 8 := by kernel_rfl
@[simp] theorem zero_144 : zeroC Try.prog 144 = some [(.raw .nilFunc)] := by kernel_rfl
@[simp] theorem zok_144 : zOk Try.prog 144 = true := by kernel_rfl
@[simp] theorem whole_144 (cs : List V) : whole Try.prog 144 cs = cs[0]? := by kernel_rfl
@[simp] theorem part_144 (cs : List V) (o : Nat) : partV Try.prog 144 cs o = cs[o]? := by kernel_rfl
@[simp] theorem cells_145 : Try.prog.cellsOf 145 = 1 := by kernel_rfl
@[simp] theorem bytes_145 : Try.prog.bytesOf 145 = 8 := by kernel_rfl
@[simp] theorem zero_145 : zeroC Try.prog 145 = some [(.raw .nilFunc)] := by kernel_rfl
@[simp] theorem zok_145 : zOk Try.prog 145 = true := by kernel_rfl
@[simp] theorem whole_145 (cs : List V) : whole Try.prog 145 cs = cs[0]? := by kernel_rfl
@[simp] theorem part_145 (cs : List V) (o : Nat) : partV Try.prog 145 cs o = cs[o]? := by kernel_rfl
@[simp] theorem cells_146 : Try.prog.cellsOf 146 = 1 := by kernel_rfl
@[simp] theorem bytes_146 : Try.prog.bytesOf 146 = 8 := by kernel_rfl
@[simp] theorem zero_146 : zeroC Try.prog 146 = some [(.raw (.pointer none))] := by kernel_rfl
@[simp] theorem zok_146 : zOk Try.prog 146 = true := by kernel_rfl
@[simp] theorem whole_146 (cs : List V) : whole Try.prog 146 cs = cs[0]? := by kernel_rfl
@[simp] theorem part_146 (cs : List V) (o : Nat) : partV Try.prog 146 cs o = cs[o]? := by kernel_rfl
@[simp] theorem cells_147 : Try.prog.cellsOf 147 = 1 := by kernel_rfl
@[simp] theorem bytes_147 : Try.prog.bytesOf 147 = 8 := by kernel_rfl
@[simp] theorem zero_147 : zeroC Try.prog 147 = some [(.raw .nilFunc)] := by kernel_rfl
@[simp] theorem zok_147 : zOk Try.prog 147 = true := by kernel_rfl
@[simp] theorem whole_147 (cs : List V) : whole Try.prog 147 cs = cs[0]? := by kernel_rfl
@[simp] theorem part_147 (cs : List V) (o : Nat) : partV Try.prog 147 cs o = cs[o]? := by kernel_rfl
@[simp] theorem cells_149 : Try.prog.cellsOf 149 = 1 := by kernel_rfl
@[simp] theorem bytes_149 : Try.prog.bytesOf 149 = 8 := by kernel_rfl
@[simp] theorem zero_149 : zeroC Try.prog 149 = some [(.raw .nilFunc)] := by kernel_rfl
@[simp] theorem zok_149 : zOk Try.prog 149 = true := by kernel_rfl
@[simp] theorem whole_149 (cs : List V) : whole Try.prog 149 cs = cs[0]? := by kernel_rfl
@[simp] theorem part_149 (cs : List V) (o : Nat) : partV Try.prog 149 cs o = cs[o]? := by kernel_rfl
@[simp] theorem cells_150 : Try.prog.cellsOf 150 = 1 := by kernel_rfl
@[simp] theorem bytes_150 : Try.prog.bytesOf 150 = 8 := by kernel_rfl
@[simp] theorem zero_150 : zeroC Try.prog 150 = some [(.raw .nilFunc)] := by kernel_rfl
@[simp] theorem zok_150 : zOk Try.prog 150 = true := by kernel_rfl
@[simp] theorem whole_150 (cs : List V) : whole Try.prog 150 cs = cs[0]? := by kernel_rfl
@[simp] theorem part_150 (cs : List V) (o : Nat) : partV Try.prog 150 cs o = cs[o]? := by kernel_rfl
@[simp] theorem cells_151 : Try.prog.cellsOf 151 = 1 := by kernel_rfl
@[simp] theorem bytes_151 : Try.prog.bytesOf 151 = 8 := by kernel_rfl
@[simp] theorem zero_151 : zeroC Try.prog 151 = some [(.raw .nilFunc)] := by kernel_rfl
@[simp] theorem zok_151 : zOk Try.prog 151 = true := by kernel_rfl
@[simp] theorem whole_151 (cs : List V) : whole Try.prog 151 cs = cs[0]? := by kernel_rfl
@[simp] theorem part_151 (cs : List V) (o : Nat) : partV Try.prog 151 cs o = cs[o]? := by kernel_rfl
@[simp] theorem cells_152 : Try.prog.cellsOf 152 = 1 := by kernel_rfl
@[simp] theorem bytes_152 : Try.prog.bytesOf 152 = 8 := by kernel_rfl
@[simp] theorem zero_152 : zeroC Try.prog 152 = some [(.raw .nilFunc)] := by kernel_rfl
@[simp] theorem zok_152 : zOk Try.prog 152 = true := by kernel_rfl
@[simp] theorem whole_152 (cs : List V) : whole Try.prog 152 cs = cs[0]? := by kernel_rfl
@[simp] theorem part_152 (cs : List V) (o : Nat) : partV Try.prog 152 cs o = cs[o]? := by kernel_rfl
@[simp] theorem cells_153 : Try.prog.cellsOf 153 = 1 := by kernel_rfl
@[simp] theorem bytes_153 : Try.prog.bytesOf 153 = 8 := by kernel_rfl
@[simp] theorem zero_153 : zeroC Try.prog 153 = some [(.raw .nilFunc)] := by kernel_rfl
@[simp] theorem zok_153 : zOk Try.prog 153 = true := by kernel_rfl
@[simp] theorem whole_153 (cs : List V) : whole Try.prog 153 cs = cs[0]? := by kernel_rfl
@[simp] theorem part_153 (cs : List V) (o : Nat) : partV Try.prog 153 cs o = cs[o]? := by kernel_rfl
@[simp] theorem cells_154 : Try.prog.cellsOf 154 = 1 := by kernel_rfl
@[simp] theorem bytes_154 : Try.prog.bytesOf 154 = 8 := by kernel_rfl
@[simp] theorem zero_154 : zeroC Try.prog 154 = some [(.raw .nilFunc)] := by kernel_rfl
@[simp] theorem zok_154 : zOk Try.prog 154 = true := by kernel_rfl
@[simp] theorem whole_154 (cs : List V) : whole Try.prog 154 cs = cs[0]? := by kernel_rfl
@[simp] theorem part_154 (cs : List V) (o : Nat) : partV Try.prog 154 cs o = cs[o]? := by kernel_rfl
@[simp] theorem cells_155 : Try.prog.cellsOf 155 = 1 := by kernel_rfl
@[simp] theorem bytes_155 : Try.prog.bytesOf 155 = 8 := by kernel_rfl
@[simp] theorem zero_155 : zeroC Try.prog 155 = some [(.raw .nilFunc)] := by kernel_rfl
@[simp] theorem zok_155 : zOk Try.prog 155 = true := by kernel_rfl
@[simp] theorem whole_155 (cs : List V) : whole Try.prog 155 cs = cs[0]? := by kernel_rfl
@[simp] theorem part_155 (cs : List V) (o : Nat) : partV Try.prog 155 cs o = cs[o]? := by kernel_rfl
@[simp] theorem cells_156 : Try.prog.cellsOf 156 = 4 := by kernel_rfl
@[simp] theorem bytes_156 : Try.prog.bytesOf 156 = 40 := by kernel_rfl
@[simp] theorem whole_156 (cs : List V) : whole Try.prog 156 cs = if 4 ≤ cs.length then some (.agg (cs.take 4)) else none := by kernel_rfl
@[simp] theorem part_156 (cs : List V) (o : Nat) : partV Try.prog 156 cs o = if o + 4 ≤ cs.length then some (.agg ((cs.drop o).take 4)) else none := by kernel_rfl
@[simp] theorem fld_156_0 : fieldP Try.prog 156 0 = some (17, 0) := by kernel_rfl
@[simp] theorem fld_156_1 : fieldP Try.prog 156 1 = some (17, 1) := by kernel_rfl
@[simp] theorem fld_156_2 : fieldP Try.prog 156 2 = some (17, 2) := by kernel_rfl
@[simp] theorem fld_156_3 : fieldP Try.prog 156 3 = some (9, 3) := by kernel_rfl
@[simp] theorem cells_157 : Try.prog.cellsOf 157 = 4 := by kernel_rfl
@[simp] theorem bytes_157 : Try.prog.bytesOf 157 = 40 := by kernel_rfl
@[simp] theorem whole_157 (cs : List V) : whole Try.prog 157 cs = if 4 ≤ cs.length then some (.agg (cs.take 4)) else none := by kernel_rfl
@[simp] theorem part_157 (cs : List V) (o : Nat) : partV Try.prog 157 cs o = if o + 4 ≤ cs.length then some (.agg ((cs.drop o).take 4)) else none := by kernel_rfl
@[simp] theorem fld_157_0 : fieldP Try.prog 157 0 = some (17, 0) := by kernel_rfl
@[simp] theorem fld_157_1 : fieldP Try.prog 157 1 = some (17, 1) := by kernel_rfl
@[simp] theorem fld_157_2 : fieldP Try.prog 157 2 = some (17, 2) := by kernel_rfl
@[simp] theorem fld_157_3 : fieldP Try.prog 157 3 = some (9, 3) := by kernel_rfl
@[simp] theorem cells_161 : Try.prog.cellsOf 161 = 1 := by kernel_rfl
@[simp] theorem bytes_161 : Try.prog.bytesOf 161 = 4 := by kernel_rfl
@[simp] theorem zero_161 : zeroC Try.prog 161 = some [.int .u32 0] := by kernel_rfl
@[simp] theorem zok_161 : zOk Try.prog 161 = true := by kernel_rfl
@[simp] theorem whole_161 (cs : List V) : whole Try.prog 161 cs = cs[0]? := by kernel_rfl
@[simp] theorem part_161 (cs : List V) (o : Nat) : partV Try.prog 161 cs o = cs[o]? := by kernel_rfl
@[simp] theorem cells_162 : Try.prog.cellsOf 162 = 1 := by kernel_rfl
@[simp] theorem bytes_162 : Try.prog.bytesOf 162 = 1 := by kernel_rfl
@[simp] theorem zero_162 : zeroC Try.prog 162 = some [.int .u8 0] := by kernel_rfl
@[simp] theorem zok_162 : zOk Try.prog 162 = true := by kernel_rfl
@[simp] theorem whole_162 (cs : List V) : whole Try.prog 162 cs = cs[0]? := by kernel_rfl
@[simp] theorem part_162 (cs : List V) (o : Nat) : partV Try.prog 162 cs o = cs[o]? := by kernel_rfl
@[simp] theorem cells_163 : Try.prog.cellsOf 163 = 1 := by kernel_rfl
@[simp] theorem bytes_163 : Try.prog.bytesOf 163 = 1 := by kernel_rfl
@[simp] theorem zero_163 : zeroC Try.prog 163 = some [.int .u8 0] := by kernel_rfl
@[simp] theorem zok_163 : zOk Try.prog 163 = true := by kernel_rfl
@[simp] theorem whole_163 (cs : List V) : whole Try.prog 163 cs = cs[0]? := by kernel_rfl
@[simp] theorem part_163 (cs : List V) (o : Nat) : partV Try.prog 163 cs o = cs[o]? := by kernel_rfl
@[simp] theorem cells_164 : Try.prog.cellsOf 164 = 1 := by kernel_rfl
@[simp] theorem bytes_164 : Try.prog.bytesOf 164 = 8 := by kernel_rfl
@[simp] theorem zero_164 : zeroC Try.prog 164 = some [(.raw .nilFunc)] := by kernel_rfl
@[simp] theorem zok_164 : zOk Try.prog 164 = true := by kernel_rfl
@[simp] theorem whole_164 (cs : List V) : whole Try.prog 164 cs = cs[0]? := by kernel_rfl
@[simp] theorem part_164 (cs : List V) (o : Nat) : partV Try.prog 164 cs o = cs[o]? := by kernel_rfl
@[simp] theorem cells_165 : Try.prog.cellsOf 165 = 1 := by kernel_rfl
@[simp] theorem bytes_165 : Try.prog.bytesOf 165 = 8 := by kernel_rfl
@[simp] theorem zero_165 : zeroC Try.prog 165 = some [(.raw (.pointer none))] := by kernel_rfl
@[simp] theorem zok_165 : zOk Try.prog 165 = true := by kernel_rfl
@[simp] theorem whole_165 (cs : List V) : whole Try.prog 165 cs = cs[0]? := by kernel_rfl
@[simp] theorem part_165 (cs : List V) (o : Nat) : partV Try.prog 165 cs o = cs[o]? := by kernel_rfl
@[simp] theorem cells_166 : Try.prog.cellsOf 166 = 1 := by kernel_rfl
@[simp] theorem bytes_166 : Try.prog.bytesOf 166 = 4 := by kernel_rfl
@[simp] theorem zero_166 : zeroC Try.prog 166 = some [.int .i32 0] := by kernel_rfl
@[simp] theorem zok_166 : zOk Try.prog 166 = true := by kernel_rfl
@[simp] theorem whole_166 (cs : List V) : whole Try.prog 166 cs = cs[0]? := by kernel_rfl
@[simp] theorem part_166 (cs : List V) (o : Nat) : partV Try.prog 166 cs o = cs[o]? := by kernel_rfl
@[simp] theorem cells_167 : Try.prog.cellsOf 167 = 1 := by kernel_rfl
@[simp] theorem bytes_167 : Try.prog.bytesOf 167 = 4 := by kernel_rfl
@[simp] theorem zero_167 : zeroC Try.prog 167 = some [.int .i32 0] := by kernel_rfl
@[simp] theorem zok_167 : zOk Try.prog 167 = true := by kernel_rfl
@[simp] theorem whole_167 (cs : List V) : whole Try.prog 167 cs = cs[0]? := by kernel_rfl
@[simp] theorem part_167 (cs : List V) (o : Nat) : partV Try.prog 167 cs o = cs[o]? := by kernel_rfl
@[simp] theorem cells_168 : Try.prog.cellsOf 168 = 11 := by kernel_rfl
@[simp] theorem bytes_168 : Try.prog.bytesOf 168 = 48 := by kernel_rfl
@[simp] theorem zero_168 : zeroC Try.prog 168 = some [.int .u64 0, .int .u64 0, .int .u32 0, .int .u8 0, .int .u8 0, .int .u8 0, .int .u8 0, (.raw .nilFunc), (.raw (.pointer none)), .int .i32 0, .int .i32 0] := by kernel_rfl
@[simp] theorem zok_168 : zOk Try.prog 168 = true := by kernel_rfl
@[simp] theorem whole_168 (cs : List V) : whole Try.prog 168 cs = if 11 ≤ cs.length then some (.agg (cs.take 11)) else none := by kernel_rfl
@[simp] theorem part_168 (cs : List V) (o : Nat) : partV Try.prog 168 cs o = if o + 11 ≤ cs.length then some (.agg ((cs.drop o).take 11)) else none := by kernel_rfl
@[simp] theorem fld_168_0 : fieldP Try.prog 168 0 = some (12, 0) := by kernel_rfl
@[simp] theorem fld_168_1 : fieldP Try.prog 168 1 = some (12, 1) := by kernel_rfl
@[simp] theorem fld_168_2 : fieldP Try.prog 168 2 = some (161, 2) := by kernel_rfl
@[simp] theorem fld_168_3 : fieldP Try.prog 168 3 = some (162, 3) := by kernel_rfl
@[simp] theorem fld_168_4 : fieldP Try.prog 168 4 = some (5, 4) := by kernel_rfl
@[simp] theorem fld_168_5 : fieldP Try.prog 168 5 = some (5, 5) := by kernel_rfl
@[simp] theorem fld_168_6 : fieldP Try.prog 168 6 = some (163, 6) := by kernel_rfl
@[simp] theorem fld_168_7 : fieldP Try.prog 168 7 = some (164, 7) := by kernel_rfl
@[simp] theorem fld_168_8 : fieldP Try.prog 168 8 = some (165, 8) := by kernel_rfl
@[simp] theorem fld_168_9 : fieldP Try.prog 168 9 = some (166, 9) := by kernel_rfl
@[simp] theorem fld_168_10 : fieldP Try.prog 168 10 = some (167, 10) := by kernel_rfl
@[simp] theorem build_168 (ps : List (Nat × V)) : evBuild Try.prog 168 ps = if (ps.all fun p => flatOk p.2) = true then ma1 .agg (fillV (fun i => [(0, 1), (1, 1), (2, 1), (3, 1), (4, 1), (5, 1), (6, 1), (7, 1), (8, 1), (9, 1), (10, 1)][i]?) [.int .u64 0, .int .u64 0, .int .u32 0, .int .u8 0, .int .u8 0, .int .u8 0, .int .u8 0, (.raw .nilFunc), (.raw (.pointer none)), .int .i32 0, .int .i32 0] ps) else none := build_of (by kernel_rfl) Try.underlying168 (by kernel_rfl) (by kernel_rfl) ps
@[simp] theorem cells_169 : Try.prog.cellsOf 169 = 11 := by kernel_rfl
@[simp] theorem bytes_169 : Try.prog.bytesOf 169 = 48 := by kernel_rfl
@[simp] theorem zero_169 : zeroC Try.prog 169 = some [.int .u64 0, .int .u64 0, .int .u32 0, .int .u8 0, .int .u8 0, .int .u8 0, .int .u8 0, (.raw .nilFunc), (.raw (.pointer none)), .int .i32 0, .int .i32 0] := by kernel_rfl
@[simp] theorem zok_169 : zOk Try.prog 169 = true := by kernel_rfl
@[simp] theorem whole_169 (cs : List V) : whole Try.prog 169 cs = if 11 ≤ cs.length then some (.agg (cs.take 11)) else none := by kernel_rfl
@[simp] theorem part_169 (cs : List V) (o : Nat) : partV Try.prog 169 cs o = if o + 11 ≤ cs.length then some (.agg ((cs.drop o).take 11)) else none := by kernel_rfl
@[simp] theorem fld_169_0 : fieldP Try.prog 169 0 = some (12, 0) := by kernel_rfl
@[simp] theorem fld_169_1 : fieldP Try.prog 169 1 = some (12, 1) := by kernel_rfl
@[simp] theorem fld_169_2 : fieldP Try.prog 169 2 = some (161, 2) := by kernel_rfl
@[simp] theorem fld_169_3 : fieldP Try.prog 169 3 = some (162, 3) := by kernel_rfl
@[simp] theorem fld_169_4 : fieldP Try.prog 169 4 = some (5, 4) := by kernel_rfl
@[simp] theorem fld_169_5 : fieldP Try.prog 169 5 = some (5, 5) := by kernel_rfl
@[simp] theorem fld_169_6 : fieldP Try.prog 169 6 = some (163, 6) := by kernel_rfl
@[simp] theorem fld_169_7 : fieldP Try.prog 169 7 = some (164, 7) := by kernel_rfl
@[simp] theorem fld_169_8 : fieldP Try.prog 169 8 = some (165, 8) := by kernel_rfl
@[simp] theorem fld_169_9 : fieldP Try.prog 169 9 = some (166, 9) := by kernel_rfl
@[simp] theorem fld_169_10 : fieldP Try.prog 169 10 = some (167, 10) := by kernel_rfl
@[simp] theorem build_169 (ps : List (Nat × V)) : evBuild Try.prog 169 ps = if (ps.all fun p => flatOk p.2) = true then ma1 .agg (fillV (fun i => [(0, 1), (1, 1), (2, 1), (3, 1), (4, 1), (5, 1), (6, 1), (7, 1), (8, 1), (9, 1), (10, 1)][i]?) [.int .u64 0, .int .u64 0, .int .u32 0, .int .u8 0, .int .u8 0, .int .u8 0, .int .u8 0, (.raw .nilFunc), (.raw (.pointer none)), .int .i32 0, .int .i32 0] ps) else none := build_of (by kernel_rfl) Try.underlying169 (by kernel_rfl) (by kernel_rfl) ps
@[simp] theorem cells_170 : Try.prog.cellsOf 170 = 1 := by kernel_rfl
@[simp] theorem bytes_170 : Try.prog.bytesOf 170 = 8 := by kernel_rfl
@[simp] theorem zero_170 : zeroC Try.prog 170 = some [(.raw (.pointer none))] := by kernel_rfl
@[simp] theorem zok_170 : zOk Try.prog 170 = true := by kernel_rfl
@[simp] theorem whole_170 (cs : List V) : whole Try.prog 170 cs = cs[0]? := by kernel_rfl
@[simp] theorem part_170 (cs : List V) (o : Nat) : partV Try.prog 170 cs o = cs[o]? := by kernel_rfl
end Go.Proofs.Try.Op
