/- What the seat's types come to. No condition. -/
import Derived.Test.YtfbbnkaahnpicaaChecked
import Derived.Test.YtfbbnkaahnpicaaSx
namespace Go.Proofs.Try.Op
open Go Go.Pg
theorem build_of {P:Program} {T:TypeId} {z:List V} {fs:Array Field} {tab:List (Nat × Nat)} (hz:zeroC P T = some z) (hu:P.underlying T = some (.struct fs)) (hi:(fs.all fun f=>(P.info? f.type).isSome) = true) (ht:fs.toList.map (fun f=>(f.offset,P.cellsOf f.type)) = tab) (ps:List (Nat × V)) :
  evBuild P T ps = if (ps.all fun p=>flatOk p.2) = true then ma1 .agg (fillV (fun i=>tab[i]?) z ps) else none:=by
 have e:(fun i:Nat=>(fs[i]?).map fun (f:Field)=>(f.offset,P.cellsOf f.type)) = fun i=>tab[i]?:=by
  funext i
  rw [← ht,List.getElem?_map]
  simp
 unfold evBuild
 rw [hz,hu]
 simp only [hi,and_true,e]
 cases fillV (fun i=>tab[i]?) z ps <;> rfl
@[simp] theorem cells_2:Try.prog.cellsOf 2 = 1:=by kernel_rfl
@[simp] theorem bytes_2:Try.prog.bytesOf 2 = 8:=by kernel_rfl
@[simp] theorem zero_2:zeroC Try.prog 2 = some [.int .i64 0]:=by kernel_rfl
@[simp] theorem zok_2:zOk Try.prog 2 = true:=by kernel_rfl
@[simp] theorem whole_2 (cs:List V):whole Try.prog 2 cs = cs[0]?:=by kernel_rfl
@[simp] theorem part_2 (cs:List V) (o:Nat):partV Try.prog 2 cs o = cs[o]?:=by kernel_rfl
@[simp] theorem cells_3:Try.prog.cellsOf 3 = 1:=by kernel_rfl
@[simp] theorem bytes_3:Try.prog.bytesOf 3 = 8:=by kernel_rfl
@[simp] theorem zero_3:zeroC Try.prog 3 = some [.int .i64 0]:=by kernel_rfl
@[simp] theorem zok_3:zOk Try.prog 3 = true:=by kernel_rfl
@[simp] theorem whole_3 (cs:List V):whole Try.prog 3 cs = cs[0]?:=by kernel_rfl
@[simp] theorem part_3 (cs:List V) (o:Nat):partV Try.prog 3 cs o = cs[o]?:=by kernel_rfl
@[simp] theorem cells_4:Try.prog.cellsOf 4 = 1:=by kernel_rfl
@[simp] theorem bytes_4:Try.prog.bytesOf 4 = 1:=by kernel_rfl
@[simp] theorem zero_4:zeroC Try.prog 4 = some [.bool false]:=by kernel_rfl
@[simp] theorem zok_4:zOk Try.prog 4 = true:=by kernel_rfl
@[simp] theorem whole_4 (cs:List V):whole Try.prog 4 cs = cs[0]?:=by kernel_rfl
@[simp] theorem part_4 (cs:List V) (o:Nat):partV Try.prog 4 cs o = cs[o]?:=by kernel_rfl
@[simp] theorem isB_4:boolT Try.prog 4 = true:=by kernel_rfl
@[simp] theorem cells_5:Try.prog.cellsOf 5 = 1:=by kernel_rfl
@[simp] theorem bytes_5:Try.prog.bytesOf 5 = 1:=by kernel_rfl
@[simp] theorem zero_5:zeroC Try.prog 5 = some [(Go.Pg.V.int Go.IntKind.u8 0)]:=by kernel_rfl
@[simp] theorem zok_5:zOk Try.prog 5 = true:=by kernel_rfl
@[simp] theorem whole_5 (cs:List V):whole Try.prog 5 cs = cs[0]?:=by kernel_rfl
@[simp] theorem part_5 (cs:List V) (o:Nat):partV Try.prog 5 cs o = cs[o]?:=by kernel_rfl
@[simp] theorem cells_6:Try.prog.cellsOf 6 = 1:=by kernel_rfl
@[simp] theorem bytes_6:Try.prog.bytesOf 6 = 1:=by kernel_rfl
@[simp] theorem zero_6:zeroC Try.prog 6 = some [(Go.Pg.V.int Go.IntKind.u8 0)]:=by kernel_rfl
@[simp] theorem zok_6:zOk Try.prog 6 = true:=by kernel_rfl
@[simp] theorem whole_6 (cs:List V):whole Try.prog 6 cs = cs[0]?:=by kernel_rfl
@[simp] theorem part_6 (cs:List V) (o:Nat):partV Try.prog 6 cs o = cs[o]?:=by kernel_rfl
@[simp] theorem cells_9:Try.prog.cellsOf 9 = 1:=by kernel_rfl
@[simp] theorem bytes_9:Try.prog.bytesOf 9 = 16:=by kernel_rfl
@[simp] theorem whole_9 (cs:List V):whole Try.prog 9 cs = cs[0]?:=by kernel_rfl
@[simp] theorem part_9 (cs:List V) (o:Nat):partV Try.prog 9 cs o = cs[o]?:=by kernel_rfl
@[simp] theorem cells_10:Try.prog.cellsOf 10 = 1:=by kernel_rfl
@[simp] theorem bytes_10:Try.prog.bytesOf 10 = 16:=by kernel_rfl
@[simp] theorem whole_10 (cs:List V):whole Try.prog 10 cs = cs[0]?:=by kernel_rfl
@[simp] theorem part_10 (cs:List V) (o:Nat):partV Try.prog 10 cs o = cs[o]?:=by kernel_rfl
@[simp] theorem cells_11:Try.prog.cellsOf 11 = 1:=by kernel_rfl
@[simp] theorem bytes_11:Try.prog.bytesOf 11 = 16:=by kernel_rfl
@[simp] theorem whole_11 (cs:List V):whole Try.prog 11 cs = cs[0]?:=by kernel_rfl
@[simp] theorem part_11 (cs:List V) (o:Nat):partV Try.prog 11 cs o = cs[o]?:=by kernel_rfl
@[simp] theorem cells_12:Try.prog.cellsOf 12 = 1:=by kernel_rfl
@[simp] theorem bytes_12:Try.prog.bytesOf 12 = 8:=by kernel_rfl
@[simp] theorem zero_12:zeroC Try.prog 12 = some [(Go.Pg.V.int Go.IntKind.u64 0)]:=by kernel_rfl
@[simp] theorem zok_12:zOk Try.prog 12 = true:=by kernel_rfl
@[simp] theorem whole_12 (cs:List V):whole Try.prog 12 cs = cs[0]?:=by kernel_rfl
@[simp] theorem part_12 (cs:List V) (o:Nat):partV Try.prog 12 cs o = cs[o]?:=by kernel_rfl
@[simp] theorem cells_15:Try.prog.cellsOf 15 = 1:=by kernel_rfl
@[simp] theorem bytes_15:Try.prog.bytesOf 15 = 8:=by kernel_rfl
@[simp] theorem whole_15 (cs:List V):whole Try.prog 15 cs = cs[0]?:=by kernel_rfl
@[simp] theorem part_15 (cs:List V) (o:Nat):partV Try.prog 15 cs o = cs[o]?:=by kernel_rfl
@[simp] theorem cells_16:Try.prog.cellsOf 16 = 1:=by kernel_rfl
@[simp] theorem bytes_16:Try.prog.bytesOf 16 = 8:=by kernel_rfl
@[simp] theorem whole_16 (cs:List V):whole Try.prog 16 cs = cs[0]?:=by kernel_rfl
@[simp] theorem part_16 (cs:List V) (o:Nat):partV Try.prog 16 cs o = cs[o]?:=by kernel_rfl
@[simp] theorem cells_17:Try.prog.cellsOf 17 = 1:=by kernel_rfl
@[simp] theorem bytes_17:Try.prog.bytesOf 17 = 8:=by kernel_rfl
@[simp] theorem whole_17 (cs:List V):whole Try.prog 17 cs = cs[0]?:=by kernel_rfl
@[simp] theorem part_17 (cs:List V) (o:Nat):partV Try.prog 17 cs o = cs[o]?:=by kernel_rfl
@[simp] theorem cells_21:Try.prog.cellsOf 21 = 1:=by kernel_rfl
@[simp] theorem bytes_21:Try.prog.bytesOf 21 = 4:=by kernel_rfl
@[simp] theorem zero_21:zeroC Try.prog 21 = some [(Go.Pg.V.int Go.IntKind.i32 0)]:=by kernel_rfl
@[simp] theorem zok_21:zOk Try.prog 21 = true:=by kernel_rfl
@[simp] theorem whole_21 (cs:List V):whole Try.prog 21 cs = cs[0]?:=by kernel_rfl
@[simp] theorem part_21 (cs:List V) (o:Nat):partV Try.prog 21 cs o = cs[o]?:=by kernel_rfl
@[simp] theorem cells_22:Try.prog.cellsOf 22 = 1:=by kernel_rfl
@[simp] theorem bytes_22:Try.prog.bytesOf 22 = 24:=by kernel_rfl
@[simp] theorem zero_22:zeroC Try.prog 22 = some [.nil]:=by kernel_rfl
@[simp] theorem zok_22:zOk Try.prog 22 = true:=by kernel_rfl
@[simp] theorem whole_22 (cs:List V):whole Try.prog 22 cs = cs[0]?:=by kernel_rfl
@[simp] theorem part_22 (cs:List V) (o:Nat):partV Try.prog 22 cs o = cs[o]?:=by kernel_rfl
@[simp] theorem elem_22:elemT Try.prog 22 = (some (none,75)):=by kernel_rfl
@[simp] theorem isS_22:sliceT Try.prog 22 = true:=by kernel_rfl
@[simp] theorem cells_23:Try.prog.cellsOf 23 = 1:=by kernel_rfl
@[simp] theorem bytes_23:Try.prog.bytesOf 23 = 24:=by kernel_rfl
@[simp] theorem zero_23:zeroC Try.prog 23 = some [.nil]:=by kernel_rfl
@[simp] theorem zok_23:zOk Try.prog 23 = true:=by kernel_rfl
@[simp] theorem whole_23 (cs:List V):whole Try.prog 23 cs = cs[0]?:=by kernel_rfl
@[simp] theorem part_23 (cs:List V) (o:Nat):partV Try.prog 23 cs o = cs[o]?:=by kernel_rfl
@[simp] theorem elem_23:elemT Try.prog 23 = (some (none,78)):=by kernel_rfl
@[simp] theorem isS_23:sliceT Try.prog 23 = true:=by kernel_rfl
@[simp] theorem cells_24:Try.prog.cellsOf 24 = 5:=by kernel_rfl
@[simp] theorem bytes_24:Try.prog.bytesOf 24 = 72:=by kernel_rfl
@[simp] theorem zero_24:zeroC Try.prog 24 = some [.int .i64 0,.int .i64 0,.int .i64 0,.nil,.nil]:=by kernel_rfl
@[simp] theorem zok_24:zOk Try.prog 24 = true:=by kernel_rfl
@[simp] theorem whole_24 (cs:List V):whole Try.prog 24 cs = if 5≤cs.length then some (.agg (cs.take 5)) else none:=by kernel_rfl
@[simp] theorem part_24 (cs:List V) (o:Nat):partV Try.prog 24 cs o = if o + 5≤cs.length then some (.agg ((cs.drop o).take 5)) else none:=by kernel_rfl
@[simp] theorem fld_24_0:fieldP Try.prog 24 0 = some (3,0):=by kernel_rfl
@[simp] theorem fld_24_1:fieldP Try.prog 24 1 = some (3,1):=by kernel_rfl
@[simp] theorem fld_24_2:fieldP Try.prog 24 2 = some (3,2):=by kernel_rfl
@[simp] theorem fld_24_3:fieldP Try.prog 24 3 = some (22,3):=by kernel_rfl
@[simp] theorem fld_24_4:fieldP Try.prog 24 4 = some (23,4):=by kernel_rfl
@[simp] theorem build_24 (ps:List (Nat × V)):evBuild Try.prog 24 ps = if (ps.all fun p=>flatOk p.2) = true then ma1 .agg (fillV (fun i=>[(0,1),(1,1),(2,1),(3,1),(4,1)][i]?) [.int .i64 0,.int .i64 0,.int .i64 0,.nil,.nil] ps) else none:=build_of (by kernel_rfl) Try.underlying24 (by kernel_rfl) (by kernel_rfl) ps
@[simp] theorem cells_25:Try.prog.cellsOf 25 = 5:=by kernel_rfl
@[simp] theorem bytes_25:Try.prog.bytesOf 25 = 72:=by kernel_rfl
@[simp] theorem zero_25:zeroC Try.prog 25 = some [.int .i64 0,.int .i64 0,.int .i64 0,.nil,.nil]:=by kernel_rfl
@[simp] theorem zok_25:zOk Try.prog 25 = true:=by kernel_rfl
@[simp] theorem whole_25 (cs:List V):whole Try.prog 25 cs = if 5≤cs.length then some (.agg (cs.take 5)) else none:=by kernel_rfl
@[simp] theorem part_25 (cs:List V) (o:Nat):partV Try.prog 25 cs o = if o + 5≤cs.length then some (.agg ((cs.drop o).take 5)) else none:=by kernel_rfl
@[simp] theorem fld_25_0:fieldP Try.prog 25 0 = some (3,0):=by kernel_rfl
@[simp] theorem fld_25_1:fieldP Try.prog 25 1 = some (3,1):=by kernel_rfl
@[simp] theorem fld_25_2:fieldP Try.prog 25 2 = some (3,2):=by kernel_rfl
@[simp] theorem fld_25_3:fieldP Try.prog 25 3 = some (22,3):=by kernel_rfl
@[simp] theorem fld_25_4:fieldP Try.prog 25 4 = some (23,4):=by kernel_rfl
@[simp] theorem build_25 (ps:List (Nat × V)):evBuild Try.prog 25 ps = if (ps.all fun p=>flatOk p.2) = true then ma1 .agg (fillV (fun i=>[(0,1),(1,1),(2,1),(3,1),(4,1)][i]?) [.int .i64 0,.int .i64 0,.int .i64 0,.nil,.nil] ps) else none:=build_of (by kernel_rfl) Try.underlying25 (by kernel_rfl) (by kernel_rfl) ps
@[simp] theorem cells_28:Try.prog.cellsOf 28 = 1:=by kernel_rfl
@[simp] theorem bytes_28:Try.prog.bytesOf 28 = 24:=by kernel_rfl
@[simp] theorem zero_28:zeroC Try.prog 28 = some [.nil]:=by kernel_rfl
@[simp] theorem zok_28:zOk Try.prog 28 = true:=by kernel_rfl
@[simp] theorem whole_28 (cs:List V):whole Try.prog 28 cs = cs[0]?:=by kernel_rfl
@[simp] theorem part_28 (cs:List V) (o:Nat):partV Try.prog 28 cs o = cs[o]?:=by kernel_rfl
@[simp] theorem elem_28:elemT Try.prog 28 = (some (none,3)):=by kernel_rfl
@[simp] theorem isS_28:sliceT Try.prog 28 = true:=by kernel_rfl
@[simp] theorem cells_29:Try.prog.cellsOf 29 = 1:=by kernel_rfl
@[simp] theorem bytes_29:Try.prog.bytesOf 29 = 8:=by kernel_rfl
@[simp] theorem zero_29:zeroC Try.prog 29 = some [.int .i64 0]:=by kernel_rfl
@[simp] theorem zok_29:zOk Try.prog 29 = true:=by kernel_rfl
@[simp] theorem whole_29 (cs:List V):whole Try.prog 29 cs = cs[0]?:=by kernel_rfl
@[simp] theorem part_29 (cs:List V) (o:Nat):partV Try.prog 29 cs o = cs[o]?:=by kernel_rfl
@[simp] theorem cells_32:Try.prog.cellsOf 32 = 1:=by kernel_rfl
@[simp] theorem bytes_32:Try.prog.bytesOf 32 = 24:=by kernel_rfl
@[simp] theorem zero_32:zeroC Try.prog 32 = some [.nil]:=by kernel_rfl
@[simp] theorem zok_32:zOk Try.prog 32 = true:=by kernel_rfl
@[simp] theorem whole_32 (cs:List V):whole Try.prog 32 cs = cs[0]?:=by kernel_rfl
@[simp] theorem part_32 (cs:List V) (o:Nat):partV Try.prog 32 cs o = cs[o]?:=by kernel_rfl
@[simp] theorem elem_32:elemT Try.prog 32 = (some (none,96)):=by kernel_rfl
@[simp] theorem isS_32:sliceT Try.prog 32 = true:=by kernel_rfl
@[simp] theorem cells_33:Try.prog.cellsOf 33 = 1:=by kernel_rfl
@[simp] theorem bytes_33:Try.prog.bytesOf 33 = 24:=by kernel_rfl
@[simp] theorem zero_33:zeroC Try.prog 33 = some [.nil]:=by kernel_rfl
@[simp] theorem zok_33:zOk Try.prog 33 = true:=by kernel_rfl
@[simp] theorem whole_33 (cs:List V):whole Try.prog 33 cs = cs[0]?:=by kernel_rfl
@[simp] theorem part_33 (cs:List V) (o:Nat):partV Try.prog 33 cs o = cs[o]?:=by kernel_rfl
@[simp] theorem elem_33:elemT Try.prog 33 = (some (none,99)):=by kernel_rfl
@[simp] theorem isS_33:sliceT Try.prog 33 = true:=by kernel_rfl
@[simp] theorem cells_34:Try.prog.cellsOf 34 = 5:=by kernel_rfl
@[simp] theorem bytes_34:Try.prog.bytesOf 34 = 72:=by kernel_rfl
@[simp] theorem zero_34:zeroC Try.prog 34 = some [.int .i64 0,.int .i64 0,.int .i64 0,.nil,.nil]:=by kernel_rfl
@[simp] theorem zok_34:zOk Try.prog 34 = true:=by kernel_rfl
@[simp] theorem whole_34 (cs:List V):whole Try.prog 34 cs = if 5≤cs.length then some (.agg (cs.take 5)) else none:=by kernel_rfl
@[simp] theorem part_34 (cs:List V) (o:Nat):partV Try.prog 34 cs o = if o + 5≤cs.length then some (.agg ((cs.drop o).take 5)) else none:=by kernel_rfl
@[simp] theorem fld_34_0:fieldP Try.prog 34 0 = some (3,0):=by kernel_rfl
@[simp] theorem fld_34_1:fieldP Try.prog 34 1 = some (3,1):=by kernel_rfl
@[simp] theorem fld_34_2:fieldP Try.prog 34 2 = some (3,2):=by kernel_rfl
@[simp] theorem fld_34_3:fieldP Try.prog 34 3 = some (32,3):=by kernel_rfl
@[simp] theorem fld_34_4:fieldP Try.prog 34 4 = some (33,4):=by kernel_rfl
@[simp] theorem build_34 (ps:List (Nat × V)):evBuild Try.prog 34 ps = if (ps.all fun p=>flatOk p.2) = true then ma1 .agg (fillV (fun i=>[(0,1),(1,1),(2,1),(3,1),(4,1)][i]?) [.int .i64 0,.int .i64 0,.int .i64 0,.nil,.nil] ps) else none:=build_of (by kernel_rfl) Try.underlying34 (by kernel_rfl) (by kernel_rfl) ps
@[simp] theorem cells_35:Try.prog.cellsOf 35 = 5:=by kernel_rfl
@[simp] theorem bytes_35:Try.prog.bytesOf 35 = 72:=by kernel_rfl
@[simp] theorem zero_35:zeroC Try.prog 35 = some [.int .i64 0,.int .i64 0,.int .i64 0,.nil,.nil]:=by kernel_rfl
@[simp] theorem zok_35:zOk Try.prog 35 = true:=by kernel_rfl
@[simp] theorem whole_35 (cs:List V):whole Try.prog 35 cs = if 5≤cs.length then some (.agg (cs.take 5)) else none:=by kernel_rfl
@[simp] theorem part_35 (cs:List V) (o:Nat):partV Try.prog 35 cs o = if o + 5≤cs.length then some (.agg ((cs.drop o).take 5)) else none:=by kernel_rfl
@[simp] theorem fld_35_0:fieldP Try.prog 35 0 = some (3,0):=by kernel_rfl
@[simp] theorem fld_35_1:fieldP Try.prog 35 1 = some (3,1):=by kernel_rfl
@[simp] theorem fld_35_2:fieldP Try.prog 35 2 = some (3,2):=by kernel_rfl
@[simp] theorem fld_35_3:fieldP Try.prog 35 3 = some (32,3):=by kernel_rfl
@[simp] theorem fld_35_4:fieldP Try.prog 35 4 = some (33,4):=by kernel_rfl
@[simp] theorem build_35 (ps:List (Nat × V)):evBuild Try.prog 35 ps = if (ps.all fun p=>flatOk p.2) = true then ma1 .agg (fillV (fun i=>[(0,1),(1,1),(2,1),(3,1),(4,1)][i]?) [.int .i64 0,.int .i64 0,.int .i64 0,.nil,.nil] ps) else none:=build_of (by kernel_rfl) Try.underlying35 (by kernel_rfl) (by kernel_rfl) ps
@[simp] theorem cells_37:Try.prog.cellsOf 37 = 1:=by kernel_rfl
@[simp] theorem bytes_37:Try.prog.bytesOf 37 = 24:=by kernel_rfl
@[simp] theorem zero_37:zeroC Try.prog 37 = some [.nil]:=by kernel_rfl
@[simp] theorem zok_37:zOk Try.prog 37 = true:=by kernel_rfl
@[simp] theorem whole_37 (cs:List V):whole Try.prog 37 cs = cs[0]?:=by kernel_rfl
@[simp] theorem part_37 (cs:List V) (o:Nat):partV Try.prog 37 cs o = cs[o]?:=by kernel_rfl
@[simp] theorem elem_37:elemT Try.prog 37 = (some (none,22)):=by kernel_rfl
@[simp] theorem isS_37:sliceT Try.prog 37 = true:=by kernel_rfl
@[simp] theorem cells_44:Try.prog.cellsOf 44 = 2:=by kernel_rfl
@[simp] theorem bytes_44:Try.prog.bytesOf 44 = 16:=by kernel_rfl
@[simp] theorem zero_44:zeroC Try.prog 44 = some [.int .i64 0,.int .i64 0]:=by kernel_rfl
@[simp] theorem zok_44:zOk Try.prog 44 = true:=by kernel_rfl
@[simp] theorem whole_44 (cs:List V):whole Try.prog 44 cs = if 2≤cs.length then some (.agg (cs.take 2)) else none:=by kernel_rfl
@[simp] theorem part_44 (cs:List V) (o:Nat):partV Try.prog 44 cs o = if o + 2≤cs.length then some (.agg ((cs.drop o).take 2)) else none:=by kernel_rfl
@[simp] theorem fld_44_0:fieldP Try.prog 44 0 = some (3,0):=by kernel_rfl
@[simp] theorem fld_44_1:fieldP Try.prog 44 1 = some (3,1):=by kernel_rfl
@[simp] theorem build_44 (ps:List (Nat × V)):evBuild Try.prog 44 ps = if (ps.all fun p=>flatOk p.2) = true then ma1 .agg (fillV (fun i=>[(0,1),(1,1)][i]?) [.int .i64 0,.int .i64 0] ps) else none:=build_of (by kernel_rfl) Try.underlying44 (by kernel_rfl) (by kernel_rfl) ps
@[simp] theorem cells_45:Try.prog.cellsOf 45 = 2:=by kernel_rfl
@[simp] theorem bytes_45:Try.prog.bytesOf 45 = 16:=by kernel_rfl
@[simp] theorem zero_45:zeroC Try.prog 45 = some [.int .i64 0,.int .i64 0]:=by kernel_rfl
@[simp] theorem zok_45:zOk Try.prog 45 = true:=by kernel_rfl
@[simp] theorem whole_45 (cs:List V):whole Try.prog 45 cs = if 2≤cs.length then some (.agg (cs.take 2)) else none:=by kernel_rfl
@[simp] theorem part_45 (cs:List V) (o:Nat):partV Try.prog 45 cs o = if o + 2≤cs.length then some (.agg ((cs.drop o).take 2)) else none:=by kernel_rfl
@[simp] theorem fld_45_0:fieldP Try.prog 45 0 = some (3,0):=by kernel_rfl
@[simp] theorem fld_45_1:fieldP Try.prog 45 1 = some (3,1):=by kernel_rfl
@[simp] theorem build_45 (ps:List (Nat × V)):evBuild Try.prog 45 ps = if (ps.all fun p=>flatOk p.2) = true then ma1 .agg (fillV (fun i=>[(0,1),(1,1)][i]?) [.int .i64 0,.int .i64 0] ps) else none:=build_of (by kernel_rfl) Try.underlying45 (by kernel_rfl) (by kernel_rfl) ps
@[simp] theorem cells_50:Try.prog.cellsOf 50 = 2:=by kernel_rfl
@[simp] theorem bytes_50:Try.prog.bytesOf 50 = 16:=by kernel_rfl
@[simp] theorem zero_50:zeroC Try.prog 50 = some [.int .i64 0,.int .i64 0]:=by kernel_rfl
@[simp] theorem zok_50:zOk Try.prog 50 = true:=by kernel_rfl
@[simp] theorem whole_50 (cs:List V):whole Try.prog 50 cs = if 2≤cs.length then some (.agg (cs.take 2)) else none:=by kernel_rfl
@[simp] theorem part_50 (cs:List V) (o:Nat):partV Try.prog 50 cs o = if o + 2≤cs.length then some (.agg ((cs.drop o).take 2)) else none:=by kernel_rfl
@[simp] theorem fld_50_0:fieldP Try.prog 50 0 = some (3,0):=by kernel_rfl
@[simp] theorem fld_50_1:fieldP Try.prog 50 1 = some (3,1):=by kernel_rfl
@[simp] theorem build_50 (ps:List (Nat × V)):evBuild Try.prog 50 ps = if (ps.all fun p=>flatOk p.2) = true then ma1 .agg (fillV (fun i=>[(0,1),(1,1)][i]?) [.int .i64 0,.int .i64 0] ps) else none:=build_of (by kernel_rfl) Try.underlying50 (by kernel_rfl) (by kernel_rfl) ps
@[simp] theorem cells_69:Try.prog.cellsOf 69 = 4:=by kernel_rfl
@[simp] theorem bytes_69:Try.prog.bytesOf 69 = 4:=by kernel_rfl
@[simp] theorem zero_69:zeroC Try.prog 69 = some [.bool false,.bool false,.bool false,.bool false]:=by kernel_rfl
@[simp] theorem zok_69:zOk Try.prog 69 = true:=by kernel_rfl
@[simp] theorem whole_69 (cs:List V):whole Try.prog 69 cs = if 4≤cs.length then some (.agg (cs.take 4)) else none:=by kernel_rfl
@[simp] theorem part_69 (cs:List V) (o:Nat):partV Try.prog 69 cs o = if o + 4≤cs.length then some (.agg ((cs.drop o).take 4)) else none:=by kernel_rfl
@[simp] theorem elem_69:elemT Try.prog 69 = (some ((some 4),4)):=by kernel_rfl
@[simp] theorem cells_70:Try.prog.cellsOf 70 = 1:=by kernel_rfl
@[simp] theorem bytes_70:Try.prog.bytesOf 70 = 8:=by kernel_rfl
@[simp] theorem zero_70:zeroC Try.prog 70 = some [(Go.Pg.V.int Go.IntKind.u64 0)]:=by kernel_rfl
@[simp] theorem zok_70:zOk Try.prog 70 = true:=by kernel_rfl
@[simp] theorem whole_70 (cs:List V):whole Try.prog 70 cs = cs[0]?:=by kernel_rfl
@[simp] theorem part_70 (cs:List V) (o:Nat):partV Try.prog 70 cs o = cs[o]?:=by kernel_rfl
@[simp] theorem cells_72:Try.prog.cellsOf 72 = 1:=by kernel_rfl
@[simp] theorem bytes_72:Try.prog.bytesOf 72 = 24:=by kernel_rfl
@[simp] theorem zero_72:zeroC Try.prog 72 = some [.nil]:=by kernel_rfl
@[simp] theorem zok_72:zOk Try.prog 72 = true:=by kernel_rfl
@[simp] theorem whole_72 (cs:List V):whole Try.prog 72 cs = cs[0]?:=by kernel_rfl
@[simp] theorem part_72 (cs:List V) (o:Nat):partV Try.prog 72 cs o = cs[o]?:=by kernel_rfl
@[simp] theorem elem_72:elemT Try.prog 72 = (some (none,73)):=by kernel_rfl
@[simp] theorem isS_72:sliceT Try.prog 72 = true:=by kernel_rfl
@[simp] theorem cells_73:Try.prog.cellsOf 73 = 1:=by kernel_rfl
@[simp] theorem bytes_73:Try.prog.bytesOf 73 = 2:=by kernel_rfl
@[simp] theorem zero_73:zeroC Try.prog 73 = some [(Go.Pg.V.int Go.IntKind.u16 0)]:=by kernel_rfl
@[simp] theorem zok_73:zOk Try.prog 73 = true:=by kernel_rfl
@[simp] theorem whole_73 (cs:List V):whole Try.prog 73 cs = cs[0]?:=by kernel_rfl
@[simp] theorem part_73 (cs:List V) (o:Nat):partV Try.prog 73 cs o = cs[o]?:=by kernel_rfl
@[simp] theorem cells_74:Try.prog.cellsOf 74 = 3:=by kernel_rfl
@[simp] theorem bytes_74:Try.prog.bytesOf 74 = 24:=by kernel_rfl
@[simp] theorem zero_74:zeroC Try.prog 74 = some [.int .i64 0,.int .i64 0,.int .i64 0]:=by kernel_rfl
@[simp] theorem zok_74:zOk Try.prog 74 = true:=by kernel_rfl
@[simp] theorem whole_74 (cs:List V):whole Try.prog 74 cs = if 3≤cs.length then some (.agg (cs.take 3)) else none:=by kernel_rfl
@[simp] theorem part_74 (cs:List V) (o:Nat):partV Try.prog 74 cs o = if o + 3≤cs.length then some (.agg ((cs.drop o).take 3)) else none:=by kernel_rfl
@[simp] theorem fld_74_0:fieldP Try.prog 74 0 = some (3,0):=by kernel_rfl
@[simp] theorem fld_74_1:fieldP Try.prog 74 1 = some (3,1):=by kernel_rfl
@[simp] theorem fld_74_2:fieldP Try.prog 74 2 = some (3,2):=by kernel_rfl
@[simp] theorem build_74 (ps:List (Nat × V)):evBuild Try.prog 74 ps = if (ps.all fun p=>flatOk p.2) = true then ma1 .agg (fillV (fun i=>[(0,1),(1,1),(2,1)][i]?) [.int .i64 0,.int .i64 0,.int .i64 0] ps) else none:=build_of (by kernel_rfl) Try.underlying74 (by kernel_rfl) (by kernel_rfl) ps
@[simp] theorem cells_75:Try.prog.cellsOf 75 = 3:=by kernel_rfl
@[simp] theorem bytes_75:Try.prog.bytesOf 75 = 24:=by kernel_rfl
@[simp] theorem zero_75:zeroC Try.prog 75 = some [.int .i64 0,.int .i64 0,.int .i64 0]:=by kernel_rfl
@[simp] theorem zok_75:zOk Try.prog 75 = true:=by kernel_rfl
@[simp] theorem whole_75 (cs:List V):whole Try.prog 75 cs = if 3≤cs.length then some (.agg (cs.take 3)) else none:=by kernel_rfl
@[simp] theorem part_75 (cs:List V) (o:Nat):partV Try.prog 75 cs o = if o + 3≤cs.length then some (.agg ((cs.drop o).take 3)) else none:=by kernel_rfl
@[simp] theorem fld_75_0:fieldP Try.prog 75 0 = some (3,0):=by kernel_rfl
@[simp] theorem fld_75_1:fieldP Try.prog 75 1 = some (3,1):=by kernel_rfl
@[simp] theorem fld_75_2:fieldP Try.prog 75 2 = some (3,2):=by kernel_rfl
@[simp] theorem build_75 (ps:List (Nat × V)):evBuild Try.prog 75 ps = if (ps.all fun p=>flatOk p.2) = true then ma1 .agg (fillV (fun i=>[(0,1),(1,1),(2,1)][i]?) [.int .i64 0,.int .i64 0,.int .i64 0] ps) else none:=build_of (by kernel_rfl) Try.underlying75 (by kernel_rfl) (by kernel_rfl) ps
@[simp] theorem cells_77:Try.prog.cellsOf 77 = 3:=by kernel_rfl
@[simp] theorem bytes_77:Try.prog.bytesOf 77 = 24:=by kernel_rfl
@[simp] theorem zero_77:zeroC Try.prog 77 = some [.int .i64 0,.int .i64 0,.int .i64 0]:=by kernel_rfl
@[simp] theorem zok_77:zOk Try.prog 77 = true:=by kernel_rfl
@[simp] theorem whole_77 (cs:List V):whole Try.prog 77 cs = if 3≤cs.length then some (.agg (cs.take 3)) else none:=by kernel_rfl
@[simp] theorem part_77 (cs:List V) (o:Nat):partV Try.prog 77 cs o = if o + 3≤cs.length then some (.agg ((cs.drop o).take 3)) else none:=by kernel_rfl
@[simp] theorem fld_77_0:fieldP Try.prog 77 0 = some (3,0):=by kernel_rfl
@[simp] theorem fld_77_1:fieldP Try.prog 77 1 = some (50,1):=by kernel_rfl
@[simp] theorem build_77 (ps:List (Nat × V)):evBuild Try.prog 77 ps = if (ps.all fun p=>flatOk p.2) = true then ma1 .agg (fillV (fun i=>[(0,1),(1,2)][i]?) [.int .i64 0,.int .i64 0,.int .i64 0] ps) else none:=build_of (by kernel_rfl) Try.underlying77 (by kernel_rfl) (by kernel_rfl) ps
@[simp] theorem cells_78:Try.prog.cellsOf 78 = 3:=by kernel_rfl
@[simp] theorem bytes_78:Try.prog.bytesOf 78 = 24:=by kernel_rfl
@[simp] theorem zero_78:zeroC Try.prog 78 = some [.int .i64 0,.int .i64 0,.int .i64 0]:=by kernel_rfl
@[simp] theorem zok_78:zOk Try.prog 78 = true:=by kernel_rfl
@[simp] theorem whole_78 (cs:List V):whole Try.prog 78 cs = if 3≤cs.length then some (.agg (cs.take 3)) else none:=by kernel_rfl
@[simp] theorem part_78 (cs:List V) (o:Nat):partV Try.prog 78 cs o = if o + 3≤cs.length then some (.agg ((cs.drop o).take 3)) else none:=by kernel_rfl
@[simp] theorem fld_78_0:fieldP Try.prog 78 0 = some (3,0):=by kernel_rfl
@[simp] theorem fld_78_1:fieldP Try.prog 78 1 = some (50,1):=by kernel_rfl
@[simp] theorem build_78 (ps:List (Nat × V)):evBuild Try.prog 78 ps = if (ps.all fun p=>flatOk p.2) = true then ma1 .agg (fillV (fun i=>[(0,1),(1,2)][i]?) [.int .i64 0,.int .i64 0,.int .i64 0] ps) else none:=build_of (by kernel_rfl) Try.underlying78 (by kernel_rfl) (by kernel_rfl) ps
@[simp] theorem cells_81:Try.prog.cellsOf 81 = 1:=by kernel_rfl
@[simp] theorem bytes_81:Try.prog.bytesOf 81 = 8:=by kernel_rfl
@[simp] theorem whole_81 (cs:List V):whole Try.prog 81 cs = cs[0]?:=by kernel_rfl
@[simp] theorem part_81 (cs:List V) (o:Nat):partV Try.prog 81 cs o = cs[o]?:=by kernel_rfl
@[simp] theorem cells_96:Try.prog.cellsOf 96 = 3:=by kernel_rfl
@[simp] theorem bytes_96:Try.prog.bytesOf 96 = 24:=by kernel_rfl
@[simp] theorem zero_96:zeroC Try.prog 96 = some [.int .i64 0,.int .i64 0,.int .i64 0]:=by kernel_rfl
@[simp] theorem zok_96:zOk Try.prog 96 = true:=by kernel_rfl
@[simp] theorem whole_96 (cs:List V):whole Try.prog 96 cs = if 3≤cs.length then some (.agg (cs.take 3)) else none:=by kernel_rfl
@[simp] theorem part_96 (cs:List V) (o:Nat):partV Try.prog 96 cs o = if o + 3≤cs.length then some (.agg ((cs.drop o).take 3)) else none:=by kernel_rfl
@[simp] theorem fld_96_0:fieldP Try.prog 96 0 = some (3,0):=by kernel_rfl
@[simp] theorem fld_96_1:fieldP Try.prog 96 1 = some (3,1):=by kernel_rfl
@[simp] theorem fld_96_2:fieldP Try.prog 96 2 = some (3,2):=by kernel_rfl
@[simp] theorem build_96 (ps:List (Nat × V)):evBuild Try.prog 96 ps = if (ps.all fun p=>flatOk p.2) = true then ma1 .agg (fillV (fun i=>[(0,1),(1,1),(2,1)][i]?) [.int .i64 0,.int .i64 0,.int .i64 0] ps) else none:=build_of (by kernel_rfl) Try.underlying96 (by kernel_rfl) (by kernel_rfl) ps
@[simp] theorem cells_98:Try.prog.cellsOf 98 = 3:=by kernel_rfl
@[simp] theorem bytes_98:Try.prog.bytesOf 98 = 24:=by kernel_rfl
@[simp] theorem zero_98:zeroC Try.prog 98 = some [.int .i64 0,.int .i64 0,.int .i64 0]:=by kernel_rfl
@[simp] theorem zok_98:zOk Try.prog 98 = true:=by kernel_rfl
@[simp] theorem whole_98 (cs:List V):whole Try.prog 98 cs = if 3≤cs.length then some (.agg (cs.take 3)) else none:=by kernel_rfl
@[simp] theorem part_98 (cs:List V) (o:Nat):partV Try.prog 98 cs o = if o + 3≤cs.length then some (.agg ((cs.drop o).take 3)) else none:=by kernel_rfl
@[simp] theorem fld_98_0:fieldP Try.prog 98 0 = some (3,0):=by kernel_rfl
@[simp] theorem fld_98_1:fieldP Try.prog 98 1 = some (45,1):=by kernel_rfl
@[simp] theorem build_98 (ps:List (Nat × V)):evBuild Try.prog 98 ps = if (ps.all fun p=>flatOk p.2) = true then ma1 .agg (fillV (fun i=>[(0,1),(1,2)][i]?) [.int .i64 0,.int .i64 0,.int .i64 0] ps) else none:=build_of (by kernel_rfl) Try.underlying98 (by kernel_rfl) (by kernel_rfl) ps
@[simp] theorem cells_99:Try.prog.cellsOf 99 = 3:=by kernel_rfl
@[simp] theorem bytes_99:Try.prog.bytesOf 99 = 24:=by kernel_rfl
@[simp] theorem zero_99:zeroC Try.prog 99 = some [.int .i64 0,.int .i64 0,.int .i64 0]:=by kernel_rfl
@[simp] theorem zok_99:zOk Try.prog 99 = true:=by kernel_rfl
@[simp] theorem whole_99 (cs:List V):whole Try.prog 99 cs = if 3≤cs.length then some (.agg (cs.take 3)) else none:=by kernel_rfl
@[simp] theorem part_99 (cs:List V) (o:Nat):partV Try.prog 99 cs o = if o + 3≤cs.length then some (.agg ((cs.drop o).take 3)) else none:=by kernel_rfl
@[simp] theorem fld_99_0:fieldP Try.prog 99 0 = some (3,0):=by kernel_rfl
@[simp] theorem fld_99_1:fieldP Try.prog 99 1 = some (45,1):=by kernel_rfl
@[simp] theorem build_99 (ps:List (Nat × V)):evBuild Try.prog 99 ps = if (ps.all fun p=>flatOk p.2) = true then ma1 .agg (fillV (fun i=>[(0,1),(1,2)][i]?) [.int .i64 0,.int .i64 0,.int .i64 0] ps) else none:=build_of (by kernel_rfl) Try.underlying99 (by kernel_rfl) (by kernel_rfl) ps
@[simp] theorem cells_110:Try.prog.cellsOf 110 = 4:=by kernel_rfl
@[simp] theorem bytes_110:Try.prog.bytesOf 110 = 32:=by kernel_rfl
@[simp] theorem zero_110:zeroC Try.prog 110 = some [.int .i64 0,.int .i64 0,.int .i64 0,.int .i64 0]:=by kernel_rfl
@[simp] theorem zok_110:zOk Try.prog 110 = true:=by kernel_rfl
@[simp] theorem whole_110 (cs:List V):whole Try.prog 110 cs = if 4≤cs.length then some (.agg (cs.take 4)) else none:=by kernel_rfl
@[simp] theorem part_110 (cs:List V) (o:Nat):partV Try.prog 110 cs o = if o + 4≤cs.length then some (.agg ((cs.drop o).take 4)) else none:=by kernel_rfl
@[simp] theorem elem_110:elemT Try.prog 110 = (some ((some 4),3)):=by kernel_rfl
@[simp] theorem cells_111:Try.prog.cellsOf 111 = 4:=by kernel_rfl
@[simp] theorem bytes_111:Try.prog.bytesOf 111 = 32:=by kernel_rfl
@[simp] theorem zero_111:zeroC Try.prog 111 = some [.int .i64 0,.int .i64 0,.int .i64 0,.int .i64 0]:=by kernel_rfl
@[simp] theorem zok_111:zOk Try.prog 111 = true:=by kernel_rfl
@[simp] theorem whole_111 (cs:List V):whole Try.prog 111 cs = if 4≤cs.length then some (.agg (cs.take 4)) else none:=by kernel_rfl
@[simp] theorem part_111 (cs:List V) (o:Nat):partV Try.prog 111 cs o = if o + 4≤cs.length then some (.agg ((cs.drop o).take 4)) else none:=by kernel_rfl
@[simp] theorem elem_111:elemT Try.prog 111 = (some ((some 4),3)):=by kernel_rfl
@[simp] theorem cells_112:Try.prog.cellsOf 112 = 10:=by kernel_rfl
@[simp] theorem bytes_112:Try.prog.bytesOf 112 = 80:=by kernel_rfl
@[simp] theorem zero_112:zeroC Try.prog 112 = some [.int .i64 0,.int .i64 0,.int .i64 0,.int .i64 0,.int .i64 0,.int .i64 0,.int .i64 0,.int .i64 0,.int .i64 0,.int .i64 0]:=by kernel_rfl
@[simp] theorem zok_112:zOk Try.prog 112 = true:=by kernel_rfl
@[simp] theorem whole_112 (cs:List V):whole Try.prog 112 cs = if 10≤cs.length then some (.agg (cs.take 10)) else none:=by kernel_rfl
@[simp] theorem part_112 (cs:List V) (o:Nat):partV Try.prog 112 cs o = if o + 10≤cs.length then some (.agg ((cs.drop o).take 10)) else none:=by kernel_rfl
@[simp] theorem fld_112_0:fieldP Try.prog 112 0 = some (111,0):=by kernel_rfl
@[simp] theorem fld_112_1:fieldP Try.prog 112 1 = some (111,4):=by kernel_rfl
@[simp] theorem fld_112_2:fieldP Try.prog 112 2 = some (3,8):=by kernel_rfl
@[simp] theorem fld_112_3:fieldP Try.prog 112 3 = some (3,9):=by kernel_rfl
@[simp] theorem build_112 (ps:List (Nat × V)):evBuild Try.prog 112 ps = if (ps.all fun p=>flatOk p.2) = true then ma1 .agg (fillV (fun i=>[(0,4),(4,4),(8,1),(9,1)][i]?) [.int .i64 0,.int .i64 0,.int .i64 0,.int .i64 0,.int .i64 0,.int .i64 0,.int .i64 0,.int .i64 0,.int .i64 0,.int .i64 0] ps) else none:=build_of (by kernel_rfl) Try.underlying112 (by kernel_rfl) (by kernel_rfl) ps
@[simp] theorem cells_113:Try.prog.cellsOf 113 = 10:=by kernel_rfl
@[simp] theorem bytes_113:Try.prog.bytesOf 113 = 80:=by kernel_rfl
@[simp] theorem zero_113:zeroC Try.prog 113 = some [.int .i64 0,.int .i64 0,.int .i64 0,.int .i64 0,.int .i64 0,.int .i64 0,.int .i64 0,.int .i64 0,.int .i64 0,.int .i64 0]:=by kernel_rfl
@[simp] theorem zok_113:zOk Try.prog 113 = true:=by kernel_rfl
@[simp] theorem whole_113 (cs:List V):whole Try.prog 113 cs = if 10≤cs.length then some (.agg (cs.take 10)) else none:=by kernel_rfl
@[simp] theorem part_113 (cs:List V) (o:Nat):partV Try.prog 113 cs o = if o + 10≤cs.length then some (.agg ((cs.drop o).take 10)) else none:=by kernel_rfl
@[simp] theorem fld_113_0:fieldP Try.prog 113 0 = some (111,0):=by kernel_rfl
@[simp] theorem fld_113_1:fieldP Try.prog 113 1 = some (111,4):=by kernel_rfl
@[simp] theorem fld_113_2:fieldP Try.prog 113 2 = some (3,8):=by kernel_rfl
@[simp] theorem fld_113_3:fieldP Try.prog 113 3 = some (3,9):=by kernel_rfl
@[simp] theorem build_113 (ps:List (Nat × V)):evBuild Try.prog 113 ps = if (ps.all fun p=>flatOk p.2) = true then ma1 .agg (fillV (fun i=>[(0,4),(4,4),(8,1),(9,1)][i]?) [.int .i64 0,.int .i64 0,.int .i64 0,.int .i64 0,.int .i64 0,.int .i64 0,.int .i64 0,.int .i64 0,.int .i64 0,.int .i64 0] ps) else none:=build_of (by kernel_rfl) Try.underlying113 (by kernel_rfl) (by kernel_rfl) ps
@[simp] theorem cells_114:Try.prog.cellsOf 114 = 1:=by kernel_rfl
@[simp] theorem bytes_114:Try.prog.bytesOf 114 = 8:=by kernel_rfl
@[simp] theorem whole_114 (cs:List V):whole Try.prog 114 cs = if 1≤cs.length then some (.agg (cs.take 1)) else none:=by kernel_rfl
@[simp] theorem part_114 (cs:List V) (o:Nat):partV Try.prog 114 cs o = if o + 1≤cs.length then some (.agg ((cs.drop o).take 1)) else none:=by kernel_rfl
@[simp] theorem fld_114_0:fieldP Try.prog 114 0 = some (108,0):=by kernel_rfl
@[simp] theorem cells_115:Try.prog.cellsOf 115 = 1:=by kernel_rfl
@[simp] theorem bytes_115:Try.prog.bytesOf 115 = 8:=by kernel_rfl
@[simp] theorem whole_115 (cs:List V):whole Try.prog 115 cs = if 1≤cs.length then some (.agg (cs.take 1)) else none:=by kernel_rfl
@[simp] theorem part_115 (cs:List V) (o:Nat):partV Try.prog 115 cs o = if o + 1≤cs.length then some (.agg ((cs.drop o).take 1)) else none:=by kernel_rfl
@[simp] theorem fld_115_0:fieldP Try.prog 115 0 = some (108,0):=by kernel_rfl
@[simp] theorem cells_122:Try.prog.cellsOf 122 = 1:=by kernel_rfl
@[simp] theorem bytes_122:Try.prog.bytesOf 122 = 8:=by kernel_rfl
@[simp] theorem whole_122 (cs:List V):whole Try.prog 122 cs = cs[0]?:=by kernel_rfl
@[simp] theorem part_122 (cs:List V) (o:Nat):partV Try.prog 122 cs o = cs[o]?:=by kernel_rfl
@[simp] theorem cells_134:Try.prog.cellsOf 134 = 1:=by kernel_rfl
@[simp] theorem bytes_134:Try.prog.bytesOf 134 = 24:=by kernel_rfl
@[simp] theorem zero_134:zeroC Try.prog 134 = some [.nil]:=by kernel_rfl
@[simp] theorem zok_134:zOk Try.prog 134 = true:=by kernel_rfl
@[simp] theorem whole_134 (cs:List V):whole Try.prog 134 cs = cs[0]?:=by kernel_rfl
@[simp] theorem part_134 (cs:List V) (o:Nat):partV Try.prog 134 cs o = cs[o]?:=by kernel_rfl
@[simp] theorem elem_134:elemT Try.prog 134 = (some (none,113)):=by kernel_rfl
@[simp] theorem isS_134:sliceT Try.prog 134 = true:=by kernel_rfl
@[simp] theorem cells_150:Try.prog.cellsOf 150 = 1:=by kernel_rfl
@[simp] theorem bytes_150:Try.prog.bytesOf 150 = 8:=by kernel_rfl
@[simp] theorem whole_150 (cs:List V):whole Try.prog 150 cs = cs[0]?:=by kernel_rfl
@[simp] theorem part_150 (cs:List V) (o:Nat):partV Try.prog 150 cs o = cs[o]?:=by kernel_rfl
@[simp] theorem cells_151:Try.prog.cellsOf 151 = 1:=by kernel_rfl
@[simp] theorem bytes_151:Try.prog.bytesOf 151 = 8:=by kernel_rfl
@[simp] theorem whole_151 (cs:List V):whole Try.prog 151 cs = cs[0]?:=by kernel_rfl
@[simp] theorem part_151 (cs:List V) (o:Nat):partV Try.prog 151 cs o = cs[o]?:=by kernel_rfl
@[simp] theorem cells_152:Try.prog.cellsOf 152 = 6:=by kernel_rfl
@[simp] theorem bytes_152:Try.prog.bytesOf 152 = 80:=by kernel_rfl
@[simp] theorem whole_152 (cs:List V):whole Try.prog 152 cs = if 6≤cs.length then some (.agg (cs.take 6)) else none:=by kernel_rfl
@[simp] theorem part_152 (cs:List V) (o:Nat):partV Try.prog 152 cs o = if o + 6≤cs.length then some (.agg ((cs.drop o).take 6)) else none:=by kernel_rfl
@[simp] theorem fld_152_0:fieldP Try.prog 152 0 = some (35,0):=by kernel_rfl
@[simp] theorem fld_152_1:fieldP Try.prog 152 1 = some (151,5):=by kernel_rfl
@[simp] theorem cells_153:Try.prog.cellsOf 153 = 6:=by kernel_rfl
@[simp] theorem bytes_153:Try.prog.bytesOf 153 = 80:=by kernel_rfl
@[simp] theorem whole_153 (cs:List V):whole Try.prog 153 cs = if 6≤cs.length then some (.agg (cs.take 6)) else none:=by kernel_rfl
@[simp] theorem part_153 (cs:List V) (o:Nat):partV Try.prog 153 cs o = if o + 6≤cs.length then some (.agg ((cs.drop o).take 6)) else none:=by kernel_rfl
@[simp] theorem fld_153_0:fieldP Try.prog 153 0 = some (35,0):=by kernel_rfl
@[simp] theorem fld_153_1:fieldP Try.prog 153 1 = some (151,5):=by kernel_rfl
@[simp] theorem cells_158:Try.prog.cellsOf 158 = 9:=by kernel_rfl
@[simp] theorem bytes_158:Try.prog.bytesOf 158 = 72:=by kernel_rfl
@[simp] theorem zero_158:zeroC Try.prog 158 = some [.int .i64 0,.int .i64 0,.int .i64 0,.int .i64 0,.int .i64 0,.int .i64 0,.int .i64 0,.int .i64 0,.int .i64 0]:=by kernel_rfl
@[simp] theorem zok_158:zOk Try.prog 158 = true:=by kernel_rfl
@[simp] theorem whole_158 (cs:List V):whole Try.prog 158 cs = if 9≤cs.length then some (.agg (cs.take 9)) else none:=by kernel_rfl
@[simp] theorem part_158 (cs:List V) (o:Nat):partV Try.prog 158 cs o = if o + 9≤cs.length then some (.agg ((cs.drop o).take 9)) else none:=by kernel_rfl
@[simp] theorem fld_158_0:fieldP Try.prog 158 0 = some (3,0):=by kernel_rfl
@[simp] theorem fld_158_1:fieldP Try.prog 158 1 = some (111,1):=by kernel_rfl
@[simp] theorem fld_158_2:fieldP Try.prog 158 2 = some (111,5):=by kernel_rfl
@[simp] theorem build_158 (ps:List (Nat × V)):evBuild Try.prog 158 ps = if (ps.all fun p=>flatOk p.2) = true then ma1 .agg (fillV (fun i=>[(0,1),(1,4),(5,4)][i]?) [.int .i64 0,.int .i64 0,.int .i64 0,.int .i64 0,.int .i64 0,.int .i64 0,.int .i64 0,.int .i64 0,.int .i64 0] ps) else none:=build_of (by kernel_rfl) Try.underlying158 (by kernel_rfl) (by kernel_rfl) ps
@[simp] theorem cells_159:Try.prog.cellsOf 159 = 9:=by kernel_rfl
@[simp] theorem bytes_159:Try.prog.bytesOf 159 = 72:=by kernel_rfl
@[simp] theorem zero_159:zeroC Try.prog 159 = some [.int .i64 0,.int .i64 0,.int .i64 0,.int .i64 0,.int .i64 0,.int .i64 0,.int .i64 0,.int .i64 0,.int .i64 0]:=by kernel_rfl
@[simp] theorem zok_159:zOk Try.prog 159 = true:=by kernel_rfl
@[simp] theorem whole_159 (cs:List V):whole Try.prog 159 cs = if 9≤cs.length then some (.agg (cs.take 9)) else none:=by kernel_rfl
@[simp] theorem part_159 (cs:List V) (o:Nat):partV Try.prog 159 cs o = if o + 9≤cs.length then some (.agg ((cs.drop o).take 9)) else none:=by kernel_rfl
@[simp] theorem fld_159_0:fieldP Try.prog 159 0 = some (3,0):=by kernel_rfl
@[simp] theorem fld_159_1:fieldP Try.prog 159 1 = some (111,1):=by kernel_rfl
@[simp] theorem fld_159_2:fieldP Try.prog 159 2 = some (111,5):=by kernel_rfl
@[simp] theorem build_159 (ps:List (Nat × V)):evBuild Try.prog 159 ps = if (ps.all fun p=>flatOk p.2) = true then ma1 .agg (fillV (fun i=>[(0,1),(1,4),(5,4)][i]?) [.int .i64 0,.int .i64 0,.int .i64 0,.int .i64 0,.int .i64 0,.int .i64 0,.int .i64 0,.int .i64 0,.int .i64 0] ps) else none:=build_of (by kernel_rfl) Try.underlying159 (by kernel_rfl) (by kernel_rfl) ps
end Go.Proofs.Try.Op
