/- What the seat's types come to. No condition. -/
import Derived.Test.YthhdhbalenanjaaGreatChecked
import Derived.Test.YthhdhbalenanjaaGreatSx
namespace Go.Proofs.Tryz.Op
open Go Go.Pg
theorem D0{P:Program}{T:TypeId}{z:List V}{fs:Array Field}{tab:List (Nat×Nat)}(hz:BW P T=some z)(hu:P.underlying T=some (.struct fs))(hi:(fs.all fun f=>(P.info? f.type).isSome)=true)(ht:fs.toList.map (fun f=>(f.offset,P.cellsOf f.type))=tab)(ps:List (Nat×V)) :
  CI P T ps=if (ps.all fun p=>BA p.2)=true then eT .agg (CZ (fun i=>tab[i]?) z ps) else none:=by
 have e:(fun i:Nat=>(fs[i]?).map fun (f:Field)=>(f.offset,P.cellsOf f.type))=fun i=>tab[i]?:=by funext i;rw[←ht,List.getElem?_map];simp
 unfold CI
 rw[hz,hu]
 simp only[hi,and_true,e]
 cases CZ (fun i=>tab[i]?) z ps<;>rfl
@[simp] theorem AIT:Tryz.prog.cellsOf 3=1:=by kernel_rfl
@[simp] theorem A9Y(cs:List V):BL Tryz.prog 3 cs=cs[0]?:=by kernel_rfl
@[simp] theorem BE5(cs:List V)(o:Nat):M8 Tryz.prog 3 cs o=cs[o]?:=by kernel_rfl
@[simp] theorem AIU:Tryz.prog.cellsOf 4=1:=by kernel_rfl
@[simp] theorem A9Z(cs:List V):BL Tryz.prog 4 cs=cs[0]?:=by kernel_rfl
@[simp] theorem AB4:Tryz.prog.cellsOf 22=1:=by kernel_rfl
@[simp] theorem A2W(cs:List V):BL Tryz.prog 22 cs=cs[0]?:=by kernel_rfl
@[simp] theorem jC:Tryz.prog.cellsOf 23=1:=by kernel_rfl
@[simp] theorem A2X(cs:List V):BL Tryz.prog 23 cs=cs[0]?:=by kernel_rfl
@[simp] theorem A90:Tryz.prog.bytesOf 3=8∧BW Tryz.prog 3=some [.int .i64 0]∧WO Tryz.prog 3=true∧Tryz.prog.bytesOf 4=1∧BW Tryz.prog 4=some [.bool false]∧WO Tryz.prog 4=true∧Tryz.prog.bytesOf 22=24∧BW Tryz.prog 22=some [.nil]∧WO Tryz.prog 22=true∧BQ Tryz.prog 22=(some (none,3))∧DO Tryz.prog 22=true∧BQ Tryz.prog 23=(some (none,22)):=by and_intros<;>kernel_rfl
@[simp] theorem AB5:Tryz.prog.cellsOf 24=1:=by kernel_rfl
@[simp] theorem A2Y(cs:List V):BL Tryz.prog 24 cs=cs[0]?:=by kernel_rfl
@[simp] theorem AB6:Tryz.prog.cellsOf 25=1:=by kernel_rfl
@[simp] theorem A2Z(cs:List V):BL Tryz.prog 25 cs=cs[0]?:=by kernel_rfl
@[simp] theorem jD:Tryz.prog.cellsOf 27=9:=by kernel_rfl
@[simp] theorem A20(cs:List V):BL Tryz.prog 27 cs=if 9≤cs.length then some (.agg (cs.take 9)) else none:=by kernel_rfl
@[simp] theorem BE6:DO Tryz.prog 23=true∧BQ Tryz.prog 24=(some (none,59))∧DO Tryz.prog 24=true∧BQ Tryz.prog 25=(some (none,188))∧DO Tryz.prog 25=true∧A1 Tryz.prog 27 0=some (3,0)∧A1 Tryz.prog 27 1=some (3,1)∧A1 Tryz.prog 27 2=some (3,2)∧A1 Tryz.prog 27 3=some (3,3)∧A1 Tryz.prog 27 4=some (22,4)∧A1 Tryz.prog 27 5=some (22,5)∧A1 Tryz.prog 27 6=some (23,6):=by and_intros<;>kernel_rfl
@[simp] theorem AB7:Tryz.prog.cellsOf 28=1:=by kernel_rfl
@[simp] theorem A21(cs:List V):BL Tryz.prog 28 cs=cs[0]?:=by kernel_rfl
@[simp] theorem AB8:Tryz.prog.cellsOf 29=1:=by kernel_rfl
@[simp] theorem A22(cs:List V):BL Tryz.prog 29 cs=cs[0]?:=by kernel_rfl
@[simp] theorem AB9:Tryz.prog.cellsOf 31=12:=by kernel_rfl
@[simp] theorem A23(cs:List V):BL Tryz.prog 31 cs=if 12≤cs.length then some (.agg (cs.take 12)) else none:=by kernel_rfl
@[simp] theorem A24(cs:List V):BL Tryz.prog 37 cs=cs[0]?:=by kernel_rfl
@[simp] theorem A25:A1 Tryz.prog 27 7=some (24,7)∧A1 Tryz.prog 27 8=some (25,8)∧BQ Tryz.prog 28=(some (none,97))∧DO Tryz.prog 28=true∧BQ Tryz.prog 29=(some (none,57))∧DO Tryz.prog 29=true∧A1 Tryz.prog 31 0=some (27,0)∧A1 Tryz.prog 31 1=some (23,9)∧A1 Tryz.prog 31 2=some (28,10)∧A1 Tryz.prog 31 3=some (29,11)∧Tryz.prog.cellsOf 37=1∧BQ Tryz.prog 37=(some (none,86)):=by and_intros<;>kernel_rfl
@[simp] theorem A26(cs:List V):BL Tryz.prog 38 cs=cs[0]?:=by kernel_rfl
@[simp] theorem A27(cs:List V):BL Tryz.prog 40 cs=if 9≤cs.length then some (.agg (cs.take 9)) else none:=by kernel_rfl
@[simp] theorem BE7:DO Tryz.prog 37=true∧Tryz.prog.cellsOf 38=1∧BQ Tryz.prog 38=(some (none,99))∧DO Tryz.prog 38=true∧Tryz.prog.cellsOf 40=9∧BW Tryz.prog 40=some [.int .i64 0,.int .i64 0,.int .i64 0,.int .i64 0,.nil,.nil,.nil,.nil,.nil]∧A1 Tryz.prog 40 0=some (3,0)∧A1 Tryz.prog 40 1=some (3,1)∧A1 Tryz.prog 40 2=some (3,2)∧A1 Tryz.prog 40 3=some (3,3)∧A1 Tryz.prog 40 4=some (22,4)∧A1 Tryz.prog 40 5=some (22,5):=by and_intros<;>kernel_rfl
@[simp] theorem A28(ps:List (Nat×V)):CI Tryz.prog 40 ps=if (ps.all fun p=>BA p.2)=true then eT .agg (CZ (fun i=>[(0,1),(1,1),(2,1),(3,1),(4,1),(5,1),(6,1),(7,1),(8,1)][i]?) [.int .i64 0,.int .i64 0,.int .i64 0,.int .i64 0,.nil,.nil,.nil,.nil,.nil] ps) else none:=D0 (by kernel_rfl) Tryz.underlying40 (by kernel_rfl) (by kernel_rfl) ps
@[simp] theorem A29(cs:List V):BL Tryz.prog 41 cs=cs[0]?:=by kernel_rfl
@[simp] theorem A3A(cs:List V):BL Tryz.prog 43 cs=if 12≤cs.length then some (.agg (cs.take 12)) else none:=by kernel_rfl
@[simp] theorem A3B:A1 Tryz.prog 40 6=some (23,6)∧A1 Tryz.prog 40 7=some (37,7)∧A1 Tryz.prog 40 8=some (38,8)∧Tryz.prog.cellsOf 41=1∧BQ Tryz.prog 41=(some (none,94))∧DO Tryz.prog 41=true∧Tryz.prog.cellsOf 43=12∧BW Tryz.prog 43=some [.int .i64 0,.int .i64 0,.int .i64 0,.int .i64 0,.nil,.nil,.nil,.nil,.nil,.nil,.nil,.nil]∧A1 Tryz.prog 43 0=some (40,0)∧A1 Tryz.prog 43 1=some (23,9)∧A1 Tryz.prog 43 2=some (28,10)∧A1 Tryz.prog 43 3=some (41,11):=by and_intros<;>kernel_rfl
@[simp] theorem A3C(ps:List (Nat×V)):CI Tryz.prog 43 ps=if (ps.all fun p=>BA p.2)=true then eT .agg (CZ (fun i=>[(0,9),(9,1),(10,1),(11,1)][i]?) [.int .i64 0,.int .i64 0,.int .i64 0,.int .i64 0,.nil,.nil,.nil,.nil,.nil,.nil,.nil,.nil] ps) else none:=D0 (by kernel_rfl) Tryz.underlying43 (by kernel_rfl) (by kernel_rfl) ps
@[simp] theorem ACA:Tryz.prog.cellsOf 57=4:=by kernel_rfl
@[simp] theorem A3D(cs:List V):BL Tryz.prog 57 cs=if 4≤cs.length then some (.agg (cs.take 4)) else none:=by kernel_rfl
@[simp] theorem A3E(cs:List V):BL Tryz.prog 59 cs=if 2≤cs.length then some (.agg (cs.take 2)) else none:=by kernel_rfl
@[simp] theorem A91:BQ Tryz.prog 49=(some (none,135))∧DO Tryz.prog 49=true∧BQ Tryz.prog 52=(some (none,137))∧BW Tryz.prog 57=some [.int .i64 0,.int .i64 0,.bool false,.bool false]∧A1 Tryz.prog 57 0=some (3,0)∧A1 Tryz.prog 57 1=some (3,1)∧A1 Tryz.prog 57 2=some (4,2)∧A1 Tryz.prog 57 3=some (4,3)∧Tryz.prog.cellsOf 59=2∧BW Tryz.prog 59=some [.int .i64 0,.int .i64 0]∧A1 Tryz.prog 59 0=some (3,0)∧A1 Tryz.prog 59 1=some (3,1):=by and_intros<;>kernel_rfl
@[simp] theorem A3F(ps:List (Nat×V)):CI Tryz.prog 59 ps=if (ps.all fun p=>BA p.2)=true then eT .agg (CZ (fun i=>[(0,1),(1,1)][i]?) [.int .i64 0,.int .i64 0] ps) else none:=D0 (by kernel_rfl) Tryz.underlying59 (by kernel_rfl) (by kernel_rfl) ps
@[simp] theorem A3G(cs:List V):BL Tryz.prog 61 cs=cs[0]?:=by kernel_rfl
@[simp] theorem A3H(cs:List V):BL Tryz.prog 66 cs=if 2≤cs.length then some (.agg (cs.take 2)) else none:=by kernel_rfl
@[simp] theorem A3I(ps:List (Nat×V)):CI Tryz.prog 66 ps=if (ps.all fun p=>BA p.2)=true then eT .agg (CZ (fun i=>[(0,1),(1,1)][i]?) [.int .i64 0,.int .i64 0] ps) else none:=D0 (by kernel_rfl) Tryz.underlying66 (by kernel_rfl) (by kernel_rfl) ps
@[simp] theorem A3J:Tryz.prog.cellsOf 61=1∧BW Tryz.prog 61=some [.nil]∧BQ Tryz.prog 61=(some (none,69))∧DO Tryz.prog 61=true∧Tryz.prog.cellsOf 66=2∧BW Tryz.prog 66=some [.int .i64 0,.int .i64 0]∧A1 Tryz.prog 66 0=some (3,0)∧A1 Tryz.prog 66 1=some (3,1)∧Tryz.prog.cellsOf 69=2∧Tryz.prog.bytesOf 69=16∧BW Tryz.prog 69=some [.int .i64 0,.int .i64 0]∧WO Tryz.prog 69=true:=by and_intros<;>kernel_rfl
@[simp] theorem A3K(cs:List V):BL Tryz.prog 69 cs=if 2≤cs.length then some (.agg (cs.take 2)) else none:=by kernel_rfl
@[simp] theorem A3L(ps:List (Nat×V)):CI Tryz.prog 69 ps=if (ps.all fun p=>BA p.2)=true then eT .agg (CZ (fun i=>[(0,1),(1,1)][i]?) [.int .i64 0,.int .i64 0] ps) else none:=D0 (by kernel_rfl) Tryz.underlying69 (by kernel_rfl) (by kernel_rfl) ps
@[simp] theorem A3M(cs:List V):BL Tryz.prog 86 cs=if 2≤cs.length then some (.agg (cs.take 2)) else none:=by kernel_rfl
@[simp] theorem A3N(ps:List (Nat×V)):CI Tryz.prog 86 ps=if (ps.all fun p=>BA p.2)=true then eT .agg (CZ (fun i=>[(0,1),(1,1)][i]?) [.int .i64 0,.int .i64 0] ps) else none:=D0 (by kernel_rfl) Tryz.underlying86 (by kernel_rfl) (by kernel_rfl) ps
@[simp] theorem A3O:A1 Tryz.prog 69 0=some (3,0)∧A1 Tryz.prog 69 1=some (3,1)∧Tryz.prog.cellsOf 86=2∧Tryz.prog.bytesOf 86=16∧BW Tryz.prog 86=some [.int .i64 0,.int .i64 0]∧WO Tryz.prog 86=true∧A1 Tryz.prog 86 0=some (3,0)∧A1 Tryz.prog 86 1=some (3,1)∧Tryz.prog.cellsOf 94=4∧Tryz.prog.bytesOf 94=24∧BW Tryz.prog 94=some [.int .i64 0,.int .i64 0,.bool false,.bool false]∧WO Tryz.prog 94=true:=by and_intros<;>kernel_rfl
@[simp] theorem A3P(cs:List V):BL Tryz.prog 94 cs=if 4≤cs.length then some (.agg (cs.take 4)) else none:=by kernel_rfl
@[simp] theorem A3Q(ps:List (Nat×V)):CI Tryz.prog 94 ps=if (ps.all fun p=>BA p.2)=true then eT .agg (CZ (fun i=>[(0,1),(1,1),(2,1),(3,1)][i]?) [.int .i64 0,.int .i64 0,.bool false,.bool false] ps) else none:=D0 (by kernel_rfl) Tryz.underlying94 (by kernel_rfl) (by kernel_rfl) ps
@[simp] theorem A3R(cs:List V):BL Tryz.prog 97 cs=cs[0]?:=by kernel_rfl
@[simp] theorem A3S:A1 Tryz.prog 94 0=some (3,0)∧A1 Tryz.prog 94 1=some (3,1)∧A1 Tryz.prog 94 2=some (4,2)∧A1 Tryz.prog 94 3=some (4,3)∧Tryz.prog.cellsOf 97=1∧Tryz.prog.bytesOf 97=24∧BW Tryz.prog 97=some [.nil]∧WO Tryz.prog 97=true∧BQ Tryz.prog 97=(some (none,4))∧DO Tryz.prog 97=true∧Tryz.prog.cellsOf 99=2∧Tryz.prog.bytesOf 99=16:=by and_intros<;>kernel_rfl
@[simp] theorem A3T(cs:List V):BL Tryz.prog 99 cs=if 2≤cs.length then some (.agg (cs.take 2)) else none:=by kernel_rfl
@[simp] theorem A3U(ps:List (Nat×V)):CI Tryz.prog 99 ps=if (ps.all fun p=>BA p.2)=true then eT .agg (CZ (fun i=>[(0,1),(1,1)][i]?) [.int .i64 0,.int .i64 0] ps) else none:=D0 (by kernel_rfl) Tryz.underlying99 (by kernel_rfl) (by kernel_rfl) ps
@[simp] theorem AU7(cs:List V):BL Tryz.prog 120 cs=cs[0]?:=by kernel_rfl
@[simp] theorem A92:BW Tryz.prog 99=some [.int .i64 0,.int .i64 0]∧WO Tryz.prog 99=true∧A1 Tryz.prog 99 0=some (3,0)∧A1 Tryz.prog 99 1=some (3,1)∧Tryz.prog.cellsOf 120=1∧BW Tryz.prog 120=some [.nil]∧BQ Tryz.prog 120=(some (none,153))∧DO Tryz.prog 120=true∧BQ Tryz.prog 123=(some (none,156))∧Tryz.prog.cellsOf 135=2∧Tryz.prog.bytesOf 135=16∧BW Tryz.prog 135=some [.int .i64 0,.int .i64 0]:=by and_intros<;>kernel_rfl
@[simp] theorem AU8(ps:List (Nat×V)):CI Tryz.prog 135 ps=if (ps.all fun p=>BA p.2)=true then eT .agg (CZ (fun i=>[(0,1),(1,1)][i]?) [.int .i64 0,.int .i64 0] ps) else none:=D0 (by kernel_rfl) Tryz.underlying135 (by kernel_rfl) (by kernel_rfl) ps
@[simp] theorem AU9(cs:List V):BL Tryz.prog 137 cs=cs[0]?:=by kernel_rfl
@[simp] theorem A93:WO Tryz.prog 135=true∧A1 Tryz.prog 135 0=some (3,0)∧A1 Tryz.prog 135 1=some (3,1)∧Tryz.prog.cellsOf 137=1∧Tryz.prog.bytesOf 137=24∧BW Tryz.prog 137=some [.nil]∧WO Tryz.prog 137=true∧BQ Tryz.prog 137=(some (none,139))∧Tryz.prog.cellsOf 139=3∧Tryz.prog.bytesOf 139=24∧BW Tryz.prog 139=some [.int .i64 0,.int .i64 0,.int .i64 0]∧WO Tryz.prog 139=true:=by and_intros<;>kernel_rfl
@[simp] theorem AVA(cs:List V):BL Tryz.prog 139 cs=if 3≤cs.length then some (.agg (cs.take 3)) else none:=by kernel_rfl
@[simp] theorem AVB(cs:List V):BL Tryz.prog 145 cs=cs[0]?:=by kernel_rfl
@[simp] theorem AVC(cs:List V):BL Tryz.prog 146 cs=cs[0]?:=by kernel_rfl
@[simp] theorem AVD(cs:List V):BL Tryz.prog 147 cs=cs[0]?:=by kernel_rfl
@[simp] theorem AVE(ps:List (Nat×V)):CI Tryz.prog 149 ps=if (ps.all fun p=>BA p.2)=true then eT .agg (CZ (fun i=>[(0,1)][i]?) [(.raw .nilFunc)] ps) else none:=D0 (by kernel_rfl) Tryz.underlying149 (by kernel_rfl) (by kernel_rfl) ps
@[simp] theorem AVF(cs:List V):BL Tryz.prog 151 cs=if 2≤cs.length then some (.agg (cs.take 2)) else none:=by kernel_rfl
@[simp] theorem AVG:A1 Tryz.prog 139 0=some (3,0)∧A1 Tryz.prog 139 1=some (3,1)∧A1 Tryz.prog 139 2=some (3,2)∧Tryz.prog.cellsOf 146=1∧Tryz.prog.cellsOf 149=1∧BW Tryz.prog 149=some [(.raw .nilFunc)]∧A1 Tryz.prog 149 0=some (146,0)∧Tryz.prog.cellsOf 151=2∧Tryz.prog.bytesOf 151=16∧BW Tryz.prog 151=some [.int .i64 0,.int .i64 0]∧WO Tryz.prog 151=true∧A1 Tryz.prog 151 0=some (3,0):=by and_intros<;>kernel_rfl
@[simp] theorem AVH(ps:List (Nat×V)):CI Tryz.prog 151 ps=if (ps.all fun p=>BA p.2)=true then eT .agg (CZ (fun i=>[(0,1),(1,1)][i]?) [.int .i64 0,.int .i64 0] ps) else none:=D0 (by kernel_rfl) Tryz.underlying151 (by kernel_rfl) (by kernel_rfl) ps
@[simp] theorem AVI(cs:List V):BL Tryz.prog 153 cs=if 4≤cs.length then some (.agg (cs.take 4)) else none:=by kernel_rfl
@[simp] theorem AVJ(ps:List (Nat×V)):CI Tryz.prog 153 ps=if (ps.all fun p=>BA p.2)=true then eT .agg (CZ (fun i=>[(0,2),(2,2)][i]?) [.int .i64 0,.int .i64 0,.int .i64 0,.int .i64 0] ps) else none:=D0 (by kernel_rfl) Tryz.underlying153 (by kernel_rfl) (by kernel_rfl) ps
@[simp] theorem AVK(cs:List V):BL Tryz.prog 155 cs=if 3≤cs.length then some (.agg (cs.take 3)) else none:=by kernel_rfl
@[simp] theorem AVL:A1 Tryz.prog 151 1=some (3,1)∧Tryz.prog.cellsOf 153=4∧Tryz.prog.bytesOf 153=32∧BW Tryz.prog 153=some [.int .i64 0,.int .i64 0,.int .i64 0,.int .i64 0]∧WO Tryz.prog 153=true∧A1 Tryz.prog 153 0=some (151,0)∧A1 Tryz.prog 153 1=some (86,2)∧Tryz.prog.cellsOf 155=3∧Tryz.prog.bytesOf 155=24∧BW Tryz.prog 155=some [.int .i64 0,.int .i64 0,.int .i64 0]∧A1 Tryz.prog 155 0=some (3,0)∧A1 Tryz.prog 155 1=some (3,1):=by and_intros<;>kernel_rfl
@[simp] theorem AVM(cs:List V):BL Tryz.prog 156 cs=cs[0]?:=by kernel_rfl
@[simp] theorem AVN(cs:List V):BL Tryz.prog 172 cs=cs[0]?:=by kernel_rfl
@[simp] theorem AVO:A1 Tryz.prog 155 2=some (3,2)∧Tryz.prog.cellsOf 156=1∧Tryz.prog.bytesOf 156=24∧BW Tryz.prog 156=some [.nil]∧WO Tryz.prog 156=true∧BQ Tryz.prog 156=(some (none,155))∧DO Tryz.prog 156=true∧BQ Tryz.prog 170=(some (none,151))∧DO Tryz.prog 170=true∧Tryz.prog.cellsOf 172=1∧BQ Tryz.prog 172=(some (none,206))∧A1 Tryz.prog 175 1=some (172,12):=by and_intros<;>kernel_rfl
@[simp] theorem AVP(ps:List (Nat×V)):CI Tryz.prog 175 ps=if (ps.all fun p=>BA p.2)=true then eT .agg (CZ (fun i=>[(0,12),(12,1),(13,1)][i]?) [.int .i64 0,.int .i64 0,.int .i64 0,.int .i64 0,.nil,.nil,.nil,.nil,.nil,.nil,.nil,.nil,.nil,(.raw (.map none))] ps) else none:=D0 (by kernel_rfl) Tryz.underlying175 (by kernel_rfl) (by kernel_rfl) ps
@[simp] theorem AVQ(cs:List V):BL Tryz.prog 177 cs=cs[0]?:=by kernel_rfl
@[simp] theorem AVR(cs:List V):BL Tryz.prog 193 cs=cs[0]?:=by kernel_rfl
@[simp] theorem AVS(cs:List V):BL Tryz.prog 200 cs=cs[0]?:=by kernel_rfl
@[simp] theorem AVT(cs:List V):BL Tryz.prog 203 cs=cs[0]?:=by kernel_rfl
@[simp] theorem AVU(cs:List V):BL Tryz.prog 204 cs=cs[0]?:=by kernel_rfl
@[simp] theorem AVV:Tryz.prog.cellsOf 177=1∧BW Tryz.prog 177=some [(.raw .nilFunc)]∧Tryz.prog.cellsOf 188=2∧A1 Tryz.prog 188 0=some (3,0)∧A1 Tryz.prog 188 1=some (3,1)∧BQ Tryz.prog 197=(some (none,204))∧DO Tryz.prog 197=true∧Tryz.prog.cellsOf 204=1∧Tryz.prog.bytesOf 204=24∧BW Tryz.prog 204=some [.nil]∧WO Tryz.prog 204=true∧BQ Tryz.prog 204=(some (none,209)):=by and_intros<;>kernel_rfl
@[simp] theorem AVW(cs:List V):BL Tryz.prog 206 cs=if 5≤cs.length then some (.agg (cs.take 5)) else none:=by kernel_rfl
@[simp] theorem AVX(cs:List V):BL Tryz.prog 207 cs=if 2≤cs.length then some (.agg (cs.take 2)) else none:=by kernel_rfl
@[simp] theorem AVY(ps:List (Nat×V)):CI Tryz.prog 207 ps=if (ps.all fun p=>BA p.2)=true then eT .agg (CZ (fun i=>[(0,1),(1,1)][i]?) [.int .i64 0,.int .i64 0] ps) else none:=D0 (by kernel_rfl) Tryz.underlying207 (by kernel_rfl) (by kernel_rfl) ps
@[simp] theorem A94:DO Tryz.prog 204=true∧Tryz.prog.cellsOf 206=5∧Tryz.prog.bytesOf 206=40∧BW Tryz.prog 206=some [.int .i64 0,.int .i64 0,.int .i64 0,.int .i64 0,.int .i64 0]∧WO Tryz.prog 206=true∧BQ Tryz.prog 206=(some ((some 5),3))∧Tryz.prog.cellsOf 207=2∧BW Tryz.prog 207=some [.int .i64 0,.int .i64 0]∧A1 Tryz.prog 207 0=some (3,0)∧A1 Tryz.prog 207 1=some (3,1)∧Tryz.prog.cellsOf 209=5∧Tryz.prog.bytesOf 209=40:=by and_intros<;>kernel_rfl
@[simp] theorem AVZ(cs:List V):BL Tryz.prog 209 cs=if 5≤cs.length then some (.agg (cs.take 5)) else none:=by kernel_rfl
@[simp] theorem AV0(cs:List V):BL Tryz.prog 211 cs=cs[0]?:=by kernel_rfl
@[simp] theorem AV1(cs:List V):BL Tryz.prog 221 cs=cs[0]?:=by kernel_rfl
@[simp] theorem AV2(cs:List V):BL Tryz.prog 225 cs=cs[0]?:=by kernel_rfl
@[simp] theorem AV3(cs:List V):BL Tryz.prog 226 cs=cs[0]?:=by kernel_rfl
@[simp] theorem AV4(cs:List V):BL Tryz.prog 233 cs=cs[0]?:=by kernel_rfl
@[simp] theorem AV5(cs:List V):BL Tryz.prog 236 cs=cs[0]?:=by kernel_rfl
@[simp] theorem AV6(ps:List (Nat×V)):CI Tryz.prog 238 ps=if (ps.all fun p=>BA p.2)=true then eT .agg (CZ (fun i=>[(0,1)][i]?) [(.raw .nilFunc)] ps) else none:=D0 (by kernel_rfl) Tryz.underlying238 (by kernel_rfl) (by kernel_rfl) ps
@[simp] theorem A3V:BW Tryz.prog 209=some [.int .i64 0,.int .i64 0,.int .i64 0,.int .i64 0,.int .i64 0]∧A1 Tryz.prog 209 0=some (3,0)∧A1 Tryz.prog 209 1=some (207,1)∧A1 Tryz.prog 209 2=some (207,3)∧Tryz.prog.cellsOf 211=1∧BW Tryz.prog 211=some [(.raw .nilFunc)]∧Tryz.prog.cellsOf 233=1∧BW Tryz.prog 233=some [(.raw (.pointer none))]∧Tryz.prog.cellsOf 236=1∧A1 Tryz.prog 238 0=some (236,0)∧A1 Tryz.prog 250 0=some (40,0)∧A1 Tryz.prog 250 1=some (23,9):=by and_intros<;>kernel_rfl
@[simp] theorem AV7(ps:List (Nat×V)):CI Tryz.prog 250 ps=if (ps.all fun p=>BA p.2)=true then eT .agg (CZ (fun i=>[(0,9),(9,1),(10,1),(11,1)][i]?) [.int .i64 0,.int .i64 0,.int .i64 0,.int .i64 0,.nil,.nil,.nil,.nil,.nil,.nil,(.raw (.map none)),(.raw (.map none))] ps) else none:=D0 (by kernel_rfl) Tryz.underlying250 (by kernel_rfl) (by kernel_rfl) ps
end Go.Proofs.Tryz.Op
