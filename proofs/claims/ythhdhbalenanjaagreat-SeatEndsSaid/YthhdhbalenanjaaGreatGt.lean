/- What the seat's types come to. No condition. -/
import Derived.Test.YthhdhbalenanjaaGreatChecked
import Derived.Test.YthhdhbalenanjaaGreatSx
namespace Go.Proofs.Tryz.Op
open Go Go.Pg
theorem ED{P:Program}{T:TypeId}{z:List V}{fs:Array Field}{tab:List (Nat×Nat)}(hz:B7 P T=some z)(hu:P.underlying T=some (.struct fs))(hi:(fs.all fun f=>(P.info? f.type).isSome)=true)(ht:fs.toList.map (fun f=>(f.offset,P.cellsOf f.type))=tab)(ps:List (Nat×V)) :
  CV P T ps=if (ps.all fun p=>A7 p.2)=true then iK .agg (C3 (fun i=>tab[i]?) z ps) else none:=by
 have e:(fun i:Nat=>(fs[i]?).map fun (f:Field)=>(f.offset,P.cellsOf f.type))=fun i=>tab[i]?:=by funext i;rw[←ht,List.getElem?_map];simp
 unfold CV
 rw[hz,hu]
 simp only[hi,and_true,e]
 cases C3 (fun i=>tab[i]?) z ps<;>rfl
@[simp] theorem AH7:Tryz.prog.cellsOf 3=1:=by kernel_rfl
@[simp] theorem A9E(cs:List V):BL Tryz.prog 3 cs=cs[0]?:=by kernel_rfl
@[simp] theorem BEL(cs:List V)(o:Nat):M5 Tryz.prog 3 cs o=cs[o]?:=by kernel_rfl
@[simp] theorem AH8:Tryz.prog.cellsOf 4=1:=by kernel_rfl
@[simp] theorem A9F(cs:List V):BL Tryz.prog 4 cs=cs[0]?:=by kernel_rfl
@[simp] theorem ABO:Tryz.prog.cellsOf 22=1:=by kernel_rfl
@[simp] theorem A18(cs:List V):BL Tryz.prog 22 cs=cs[0]?:=by kernel_rfl
@[simp] theorem iX:Tryz.prog.cellsOf 23=1:=by kernel_rfl
@[simp] theorem A19(cs:List V):BL Tryz.prog 23 cs=cs[0]?:=by kernel_rfl
@[simp] theorem A9G:Tryz.prog.bytesOf 3=8∧B7 Tryz.prog 3=some [.int .i64 0]∧V0 Tryz.prog 3=true∧Tryz.prog.bytesOf 4=1∧B7 Tryz.prog 4=some [.bool false]∧V0 Tryz.prog 4=true∧Tryz.prog.bytesOf 22=24∧B7 Tryz.prog 22=some [.nil]∧V0 Tryz.prog 22=true∧BM Tryz.prog 22=(some (none,3))∧DE Tryz.prog 22=true∧BM Tryz.prog 23=(some (none,22)):=by and_intros<;>kernel_rfl
@[simp] theorem ABP:Tryz.prog.cellsOf 24=1:=by kernel_rfl
@[simp] theorem A2A(cs:List V):BL Tryz.prog 24 cs=cs[0]?:=by kernel_rfl
@[simp] theorem ABQ:Tryz.prog.cellsOf 25=1:=by kernel_rfl
@[simp] theorem A2B(cs:List V):BL Tryz.prog 25 cs=cs[0]?:=by kernel_rfl
@[simp] theorem iY:Tryz.prog.cellsOf 27=9:=by kernel_rfl
@[simp] theorem A2C(cs:List V):BL Tryz.prog 27 cs=if 9≤cs.length then some (.agg (cs.take 9)) else none:=by kernel_rfl
@[simp] theorem BEM:DE Tryz.prog 23=true∧BM Tryz.prog 24=(some (none,59))∧DE Tryz.prog 24=true∧BM Tryz.prog 25=(some (none,188))∧DE Tryz.prog 25=true∧A2 Tryz.prog 27 0=some (3,0)∧A2 Tryz.prog 27 1=some (3,1)∧A2 Tryz.prog 27 2=some (3,2)∧A2 Tryz.prog 27 3=some (3,3)∧A2 Tryz.prog 27 4=some (22,4)∧A2 Tryz.prog 27 5=some (22,5)∧A2 Tryz.prog 27 6=some (23,6):=by and_intros<;>kernel_rfl
@[simp] theorem ABR:Tryz.prog.cellsOf 28=1:=by kernel_rfl
@[simp] theorem A2D(cs:List V):BL Tryz.prog 28 cs=cs[0]?:=by kernel_rfl
@[simp] theorem ABS:Tryz.prog.cellsOf 29=1:=by kernel_rfl
@[simp] theorem A2E(cs:List V):BL Tryz.prog 29 cs=cs[0]?:=by kernel_rfl
@[simp] theorem ABT:Tryz.prog.cellsOf 31=12:=by kernel_rfl
@[simp] theorem A2F(cs:List V):BL Tryz.prog 31 cs=if 12≤cs.length then some (.agg (cs.take 12)) else none:=by kernel_rfl
@[simp] theorem A2G(cs:List V):BL Tryz.prog 37 cs=cs[0]?:=by kernel_rfl
@[simp] theorem A2H:A2 Tryz.prog 27 7=some (24,7)∧A2 Tryz.prog 27 8=some (25,8)∧BM Tryz.prog 28=(some (none,97))∧DE Tryz.prog 28=true∧BM Tryz.prog 29=(some (none,57))∧DE Tryz.prog 29=true∧A2 Tryz.prog 31 0=some (27,0)∧A2 Tryz.prog 31 1=some (23,9)∧A2 Tryz.prog 31 2=some (28,10)∧A2 Tryz.prog 31 3=some (29,11)∧Tryz.prog.cellsOf 37=1∧BM Tryz.prog 37=(some (none,86)):=by and_intros<;>kernel_rfl
@[simp] theorem A2I(cs:List V):BL Tryz.prog 38 cs=cs[0]?:=by kernel_rfl
@[simp] theorem A2J(cs:List V):BL Tryz.prog 40 cs=if 9≤cs.length then some (.agg (cs.take 9)) else none:=by kernel_rfl
@[simp] theorem BEN:DE Tryz.prog 37=true∧Tryz.prog.cellsOf 38=1∧BM Tryz.prog 38=(some (none,99))∧DE Tryz.prog 38=true∧Tryz.prog.cellsOf 40=9∧B7 Tryz.prog 40=some [.int .i64 0,.int .i64 0,.int .i64 0,.int .i64 0,.nil,.nil,.nil,.nil,.nil]∧A2 Tryz.prog 40 0=some (3,0)∧A2 Tryz.prog 40 1=some (3,1)∧A2 Tryz.prog 40 2=some (3,2)∧A2 Tryz.prog 40 3=some (3,3)∧A2 Tryz.prog 40 4=some (22,4)∧A2 Tryz.prog 40 5=some (22,5):=by and_intros<;>kernel_rfl
@[simp] theorem A2K(ps:List (Nat×V)):CV Tryz.prog 40 ps=if (ps.all fun p=>A7 p.2)=true then iK .agg (C3 (fun i=>[(0,1),(1,1),(2,1),(3,1),(4,1),(5,1),(6,1),(7,1),(8,1)][i]?) [.int .i64 0,.int .i64 0,.int .i64 0,.int .i64 0,.nil,.nil,.nil,.nil,.nil] ps) else none:=ED (by kernel_rfl) Tryz.underlying40 (by kernel_rfl) (by kernel_rfl) ps
@[simp] theorem A2L(cs:List V):BL Tryz.prog 41 cs=cs[0]?:=by kernel_rfl
@[simp] theorem A2M(cs:List V):BL Tryz.prog 43 cs=if 12≤cs.length then some (.agg (cs.take 12)) else none:=by kernel_rfl
@[simp] theorem A2N:A2 Tryz.prog 40 6=some (23,6)∧A2 Tryz.prog 40 7=some (37,7)∧A2 Tryz.prog 40 8=some (38,8)∧Tryz.prog.cellsOf 41=1∧BM Tryz.prog 41=(some (none,94))∧DE Tryz.prog 41=true∧Tryz.prog.cellsOf 43=12∧B7 Tryz.prog 43=some [.int .i64 0,.int .i64 0,.int .i64 0,.int .i64 0,.nil,.nil,.nil,.nil,.nil,.nil,.nil,.nil]∧A2 Tryz.prog 43 0=some (40,0)∧A2 Tryz.prog 43 1=some (23,9)∧A2 Tryz.prog 43 2=some (28,10)∧A2 Tryz.prog 43 3=some (41,11):=by and_intros<;>kernel_rfl
@[simp] theorem A2O(ps:List (Nat×V)):CV Tryz.prog 43 ps=if (ps.all fun p=>A7 p.2)=true then iK .agg (C3 (fun i=>[(0,9),(9,1),(10,1),(11,1)][i]?) [.int .i64 0,.int .i64 0,.int .i64 0,.int .i64 0,.nil,.nil,.nil,.nil,.nil,.nil,.nil,.nil] ps) else none:=ED (by kernel_rfl) Tryz.underlying43 (by kernel_rfl) (by kernel_rfl) ps
@[simp] theorem ABU:Tryz.prog.cellsOf 57=4:=by kernel_rfl
@[simp] theorem A2P(cs:List V):BL Tryz.prog 57 cs=if 4≤cs.length then some (.agg (cs.take 4)) else none:=by kernel_rfl
@[simp] theorem A9H:BM Tryz.prog 49=(some (none,135))∧DE Tryz.prog 49=true∧BM Tryz.prog 52=(some (none,137))∧B7 Tryz.prog 57=some [.int .i64 0,.int .i64 0,.bool false,.bool false]∧A2 Tryz.prog 57 0=some (3,0)∧A2 Tryz.prog 57 1=some (3,1)∧A2 Tryz.prog 57 2=some (4,2)∧A2 Tryz.prog 57 3=some (4,3)∧Tryz.prog.cellsOf 59=2∧Tryz.prog.bytesOf 59=16∧B7 Tryz.prog 59=some [.int .i64 0,.int .i64 0]∧V0 Tryz.prog 59=true:=by and_intros<;>kernel_rfl
@[simp] theorem A2Q(cs:List V):BL Tryz.prog 59 cs=if 2≤cs.length then some (.agg (cs.take 2)) else none:=by kernel_rfl
@[simp] theorem A2R(ps:List (Nat×V)):CV Tryz.prog 59 ps=if (ps.all fun p=>A7 p.2)=true then iK .agg (C3 (fun i=>[(0,1),(1,1)][i]?) [.int .i64 0,.int .i64 0] ps) else none:=ED (by kernel_rfl) Tryz.underlying59 (by kernel_rfl) (by kernel_rfl) ps
@[simp] theorem A2S(cs:List V):BL Tryz.prog 61 cs=cs[0]?:=by kernel_rfl
@[simp] theorem A2T(cs:List V):BL Tryz.prog 69 cs=if 2≤cs.length then some (.agg (cs.take 2)) else none:=by kernel_rfl
@[simp] theorem A2U:A2 Tryz.prog 59 0=some (3,0)∧A2 Tryz.prog 59 1=some (3,1)∧Tryz.prog.cellsOf 61=1∧B7 Tryz.prog 61=some [.nil]∧BM Tryz.prog 61=(some (none,69))∧DE Tryz.prog 61=true∧Tryz.prog.cellsOf 69=2∧Tryz.prog.bytesOf 69=16∧B7 Tryz.prog 69=some [.int .i64 0,.int .i64 0]∧V0 Tryz.prog 69=true∧A2 Tryz.prog 69 0=some (3,0)∧A2 Tryz.prog 69 1=some (3,1):=by and_intros<;>kernel_rfl
@[simp] theorem A2V(ps:List (Nat×V)):CV Tryz.prog 69 ps=if (ps.all fun p=>A7 p.2)=true then iK .agg (C3 (fun i=>[(0,1),(1,1)][i]?) [.int .i64 0,.int .i64 0] ps) else none:=ED (by kernel_rfl) Tryz.underlying69 (by kernel_rfl) (by kernel_rfl) ps
@[simp] theorem A2W(cs:List V):BL Tryz.prog 86 cs=if 2≤cs.length then some (.agg (cs.take 2)) else none:=by kernel_rfl
@[simp] theorem A2X(ps:List (Nat×V)):CV Tryz.prog 86 ps=if (ps.all fun p=>A7 p.2)=true then iK .agg (C3 (fun i=>[(0,1),(1,1)][i]?) [.int .i64 0,.int .i64 0] ps) else none:=ED (by kernel_rfl) Tryz.underlying86 (by kernel_rfl) (by kernel_rfl) ps
@[simp] theorem A2Y(cs:List V):BL Tryz.prog 94 cs=if 4≤cs.length then some (.agg (cs.take 4)) else none:=by kernel_rfl
@[simp] theorem A2Z:Tryz.prog.cellsOf 86=2∧Tryz.prog.bytesOf 86=16∧B7 Tryz.prog 86=some [.int .i64 0,.int .i64 0]∧V0 Tryz.prog 86=true∧A2 Tryz.prog 86 0=some (3,0)∧A2 Tryz.prog 86 1=some (3,1)∧Tryz.prog.cellsOf 94=4∧Tryz.prog.bytesOf 94=24∧B7 Tryz.prog 94=some [.int .i64 0,.int .i64 0,.bool false,.bool false]∧V0 Tryz.prog 94=true∧A2 Tryz.prog 94 0=some (3,0)∧A2 Tryz.prog 94 1=some (3,1):=by and_intros<;>kernel_rfl
@[simp] theorem A20(ps:List (Nat×V)):CV Tryz.prog 94 ps=if (ps.all fun p=>A7 p.2)=true then iK .agg (C3 (fun i=>[(0,1),(1,1),(2,1),(3,1)][i]?) [.int .i64 0,.int .i64 0,.bool false,.bool false] ps) else none:=ED (by kernel_rfl) Tryz.underlying94 (by kernel_rfl) (by kernel_rfl) ps
@[simp] theorem A21(cs:List V):BL Tryz.prog 97 cs=cs[0]?:=by kernel_rfl
@[simp] theorem A22:A2 Tryz.prog 94 2=some (4,2)∧A2 Tryz.prog 94 3=some (4,3)∧Tryz.prog.cellsOf 97=1∧Tryz.prog.bytesOf 97=24∧B7 Tryz.prog 97=some [.nil]∧V0 Tryz.prog 97=true∧BM Tryz.prog 97=(some (none,4))∧DE Tryz.prog 97=true∧Tryz.prog.cellsOf 99=2∧Tryz.prog.bytesOf 99=16∧B7 Tryz.prog 99=some [.int .i64 0,.int .i64 0]∧V0 Tryz.prog 99=true:=by and_intros<;>kernel_rfl
@[simp] theorem A23(cs:List V):BL Tryz.prog 99 cs=if 2≤cs.length then some (.agg (cs.take 2)) else none:=by kernel_rfl
@[simp] theorem A24(ps:List (Nat×V)):CV Tryz.prog 99 ps=if (ps.all fun p=>A7 p.2)=true then iK .agg (C3 (fun i=>[(0,1),(1,1)][i]?) [.int .i64 0,.int .i64 0] ps) else none:=ED (by kernel_rfl) Tryz.underlying99 (by kernel_rfl) (by kernel_rfl) ps
@[simp] theorem AUR(cs:List V):BL Tryz.prog 100 cs=cs[0]?:=by kernel_rfl
@[simp] theorem AUS(cs:List V):BL Tryz.prog 120 cs=cs[0]?:=by kernel_rfl
@[simp] theorem A25:A2 Tryz.prog 99 0=some (3,0)∧A2 Tryz.prog 99 1=some (3,1)∧Tryz.prog.cellsOf 100=1∧BM Tryz.prog 101=(some (none,100))∧DE Tryz.prog 101=true∧Tryz.prog.cellsOf 120=1∧B7 Tryz.prog 120=some [.nil]∧BM Tryz.prog 120=(some (none,153))∧DE Tryz.prog 120=true∧BM Tryz.prog 123=(some (none,156))∧Tryz.prog.cellsOf 135=2∧Tryz.prog.bytesOf 135=16:=by and_intros<;>kernel_rfl
@[simp] theorem AUT(ps:List (Nat×V)):CV Tryz.prog 135 ps=if (ps.all fun p=>A7 p.2)=true then iK .agg (C3 (fun i=>[(0,1),(1,1)][i]?) [.int .i64 0,.int .i64 0] ps) else none:=ED (by kernel_rfl) Tryz.underlying135 (by kernel_rfl) (by kernel_rfl) ps
@[simp] theorem AUU(cs:List V):BL Tryz.prog 137 cs=cs[0]?:=by kernel_rfl
@[simp] theorem A26:B7 Tryz.prog 135=some [.int .i64 0,.int .i64 0]∧V0 Tryz.prog 135=true∧A2 Tryz.prog 135 0=some (3,0)∧A2 Tryz.prog 135 1=some (3,1)∧Tryz.prog.cellsOf 137=1∧Tryz.prog.bytesOf 137=24∧B7 Tryz.prog 137=some [.nil]∧V0 Tryz.prog 137=true∧BM Tryz.prog 137=(some (none,139))∧Tryz.prog.cellsOf 139=3∧Tryz.prog.bytesOf 139=24∧B7 Tryz.prog 139=some [.int .i64 0,.int .i64 0,.int .i64 0]:=by and_intros<;>kernel_rfl
@[simp] theorem AUV(cs:List V):BL Tryz.prog 139 cs=if 3≤cs.length then some (.agg (cs.take 3)) else none:=by kernel_rfl
@[simp] theorem AUW(cs:List V):BL Tryz.prog 145 cs=cs[0]?:=by kernel_rfl
@[simp] theorem AUX(cs:List V):BL Tryz.prog 151 cs=if 2≤cs.length then some (.agg (cs.take 2)) else none:=by kernel_rfl
@[simp] theorem AUY(ps:List (Nat×V)):CV Tryz.prog 151 ps=if (ps.all fun p=>A7 p.2)=true then iK .agg (C3 (fun i=>[(0,1),(1,1)][i]?) [.int .i64 0,.int .i64 0] ps) else none:=ED (by kernel_rfl) Tryz.underlying151 (by kernel_rfl) (by kernel_rfl) ps
@[simp] theorem A9I:V0 Tryz.prog 139=true∧A2 Tryz.prog 139 0=some (3,0)∧A2 Tryz.prog 139 1=some (3,1)∧A2 Tryz.prog 139 2=some (3,2)∧Tryz.prog.cellsOf 151=2∧Tryz.prog.bytesOf 151=16∧B7 Tryz.prog 151=some [.int .i64 0,.int .i64 0]∧V0 Tryz.prog 151=true∧A2 Tryz.prog 151 0=some (3,0)∧A2 Tryz.prog 151 1=some (3,1)∧Tryz.prog.cellsOf 153=4∧Tryz.prog.bytesOf 153=32:=by and_intros<;>kernel_rfl
@[simp] theorem AUZ(cs:List V):BL Tryz.prog 153 cs=if 4≤cs.length then some (.agg (cs.take 4)) else none:=by kernel_rfl
@[simp] theorem AU0(ps:List (Nat×V)):CV Tryz.prog 153 ps=if (ps.all fun p=>A7 p.2)=true then iK .agg (C3 (fun i=>[(0,2),(2,2)][i]?) [.int .i64 0,.int .i64 0,.int .i64 0,.int .i64 0] ps) else none:=ED (by kernel_rfl) Tryz.underlying153 (by kernel_rfl) (by kernel_rfl) ps
@[simp] theorem AU1(cs:List V):BL Tryz.prog 155 cs=if 3≤cs.length then some (.agg (cs.take 3)) else none:=by kernel_rfl
@[simp] theorem A27:B7 Tryz.prog 153=some [.int .i64 0,.int .i64 0,.int .i64 0,.int .i64 0]∧V0 Tryz.prog 153=true∧A2 Tryz.prog 153 0=some (151,0)∧A2 Tryz.prog 153 1=some (86,2)∧Tryz.prog.cellsOf 155=3∧Tryz.prog.bytesOf 155=24∧B7 Tryz.prog 155=some [.int .i64 0,.int .i64 0,.int .i64 0]∧A2 Tryz.prog 155 0=some (3,0)∧A2 Tryz.prog 155 1=some (3,1)∧A2 Tryz.prog 155 2=some (3,2)∧Tryz.prog.cellsOf 156=1∧Tryz.prog.bytesOf 156=24:=by and_intros<;>kernel_rfl
@[simp] theorem AU2(cs:List V):BL Tryz.prog 156 cs=cs[0]?:=by kernel_rfl
@[simp] theorem AU3(cs:List V):BL Tryz.prog 172 cs=cs[0]?:=by kernel_rfl
@[simp] theorem AU4(ps:List (Nat×V)):CV Tryz.prog 175 ps=if (ps.all fun p=>A7 p.2)=true then iK .agg (C3 (fun i=>[(0,12),(12,1),(13,1)][i]?) [.int .i64 0,.int .i64 0,.int .i64 0,.int .i64 0,.nil,.nil,.nil,.nil,.nil,.nil,.nil,.nil,.nil,(.raw (.map none))] ps) else none:=ED (by kernel_rfl) Tryz.underlying175 (by kernel_rfl) (by kernel_rfl) ps
@[simp] theorem AU5(cs:List V):BL Tryz.prog 177 cs=cs[0]?:=by kernel_rfl
@[simp] theorem A28:B7 Tryz.prog 156=some [.nil]∧V0 Tryz.prog 156=true∧BM Tryz.prog 156=(some (none,155))∧DE Tryz.prog 156=true∧BM Tryz.prog 170=(some (none,151))∧DE Tryz.prog 170=true∧Tryz.prog.cellsOf 172=1∧BM Tryz.prog 172=(some (none,206))∧A2 Tryz.prog 175 1=some (172,12)∧Tryz.prog.cellsOf 177=1∧B7 Tryz.prog 177=some [(.raw .nilFunc)]∧Tryz.prog.cellsOf 188=2:=by and_intros<;>kernel_rfl
@[simp] theorem AU6(cs:List V):BL Tryz.prog 193 cs=cs[0]?:=by kernel_rfl
@[simp] theorem AU7(cs:List V):BL Tryz.prog 200 cs=cs[0]?:=by kernel_rfl
@[simp] theorem AU8(cs:List V):BL Tryz.prog 203 cs=cs[0]?:=by kernel_rfl
@[simp] theorem AU9(cs:List V):BL Tryz.prog 204 cs=cs[0]?:=by kernel_rfl
@[simp] theorem AVA:A2 Tryz.prog 188 0=some (3,0)∧A2 Tryz.prog 188 1=some (3,1)∧BM Tryz.prog 197=(some (none,204))∧DE Tryz.prog 197=true∧Tryz.prog.cellsOf 204=1∧Tryz.prog.bytesOf 204=24∧B7 Tryz.prog 204=some [.nil]∧V0 Tryz.prog 204=true∧BM Tryz.prog 204=(some (none,209))∧DE Tryz.prog 204=true∧Tryz.prog.cellsOf 206=5∧Tryz.prog.bytesOf 206=40:=by and_intros<;>kernel_rfl
@[simp] theorem AVB(cs:List V):BL Tryz.prog 206 cs=if 5≤cs.length then some (.agg (cs.take 5)) else none:=by kernel_rfl
@[simp] theorem AVC(cs:List V):BL Tryz.prog 207 cs=if 2≤cs.length then some (.agg (cs.take 2)) else none:=by kernel_rfl
@[simp] theorem AVD(ps:List (Nat×V)):CV Tryz.prog 207 ps=if (ps.all fun p=>A7 p.2)=true then iK .agg (C3 (fun i=>[(0,1),(1,1)][i]?) [.int .i64 0,.int .i64 0] ps) else none:=ED (by kernel_rfl) Tryz.underlying207 (by kernel_rfl) (by kernel_rfl) ps
@[simp] theorem AVE(cs:List V):BL Tryz.prog 209 cs=if 5≤cs.length then some (.agg (cs.take 5)) else none:=by kernel_rfl
@[simp] theorem A29:B7 Tryz.prog 206=some [.int .i64 0,.int .i64 0,.int .i64 0,.int .i64 0,.int .i64 0]∧V0 Tryz.prog 206=true∧BM Tryz.prog 206=(some ((some 5),3))∧Tryz.prog.cellsOf 207=2∧B7 Tryz.prog 207=some [.int .i64 0,.int .i64 0]∧A2 Tryz.prog 207 0=some (3,0)∧A2 Tryz.prog 207 1=some (3,1)∧Tryz.prog.cellsOf 209=5∧Tryz.prog.bytesOf 209=40∧B7 Tryz.prog 209=some [.int .i64 0,.int .i64 0,.int .i64 0,.int .i64 0,.int .i64 0]∧A2 Tryz.prog 209 0=some (3,0)∧A2 Tryz.prog 209 1=some (207,1):=by and_intros<;>kernel_rfl
@[simp] theorem AVF(cs:List V):BL Tryz.prog 211 cs=cs[0]?:=by kernel_rfl
@[simp] theorem AVG(cs:List V):BL Tryz.prog 221 cs=cs[0]?:=by kernel_rfl
@[simp] theorem AVH(cs:List V):BL Tryz.prog 225 cs=cs[0]?:=by kernel_rfl
@[simp] theorem AVI(cs:List V):BL Tryz.prog 226 cs=cs[0]?:=by kernel_rfl
@[simp] theorem AVJ(cs:List V):BL Tryz.prog 233 cs=cs[0]?:=by kernel_rfl
@[simp] theorem AVK(cs:List V):BL Tryz.prog 236 cs=cs[0]?:=by kernel_rfl
@[simp] theorem AVL(ps:List (Nat×V)):CV Tryz.prog 238 ps=if (ps.all fun p=>A7 p.2)=true then iK .agg (C3 (fun i=>[(0,1)][i]?) [(.raw .nilFunc)] ps) else none:=ED (by kernel_rfl) Tryz.underlying238 (by kernel_rfl) (by kernel_rfl) ps
@[simp] theorem AVM(ps:List (Nat×V)):CV Tryz.prog 250 ps=if (ps.all fun p=>A7 p.2)=true then iK .agg (C3 (fun i=>[(0,9),(9,1),(10,1),(11,1)][i]?) [.int .i64 0,.int .i64 0,.int .i64 0,.int .i64 0,.nil,.nil,.nil,.nil,.nil,.nil,(.raw (.map none)),(.raw (.map none))] ps) else none:=ED (by kernel_rfl) Tryz.underlying250 (by kernel_rfl) (by kernel_rfl) ps
@[simp] theorem AVN:A2 Tryz.prog 209 2=some (207,3)∧Tryz.prog.cellsOf 211=1∧B7 Tryz.prog 211=some [(.raw .nilFunc)]∧Tryz.prog.cellsOf 233=1∧B7 Tryz.prog 233=some [(.raw (.pointer none))]∧Tryz.prog.cellsOf 236=1∧A2 Tryz.prog 238 0=some (236,0)∧A2 Tryz.prog 250 0=some (40,0)∧A2 Tryz.prog 250 1=some (23,9):=by and_intros<;>kernel_rfl
end Go.Proofs.Tryz.Op
