/- What the seat's types come to. No condition. -/
import Derived.Test.YthhdhbalenanjaaGreatChecked
import Derived.Test.YthhdhbalenanjaaGreatSx
namespace Go.Proofs.Tryz.Op
open Go Go.Pg
theorem EC{P:Program}{T:TypeId}{z:List V}{fs:Array Field}{tab:List (Nat×Nat)}(hz:B5 P T=some z)(hu:P.underlying T=some (.struct fs))(hi:(fs.all fun f=>(P.info? f.type).isSome)=true)(ht:fs.toList.map (fun f=>(f.offset,P.cellsOf f.type))=tab)(ps:List (Nat×V)) :
  CR P T ps=if (ps.all fun p=>A7 p.2)=true then kR .agg (CZ (fun i=>tab[i]?) z ps) else none:=by
 have e:(fun i:Nat=>(fs[i]?).map fun (f:Field)=>(f.offset,P.cellsOf f.type))=fun i=>tab[i]?:=by
  funext i
  rw[← ht,List.getElem?_map]
  simp
 unfold CR
 rw[hz,hu]
 simp only[hi,and_true,e]
 cases CZ (fun i=>tab[i]?) z ps <;> rfl
@[simp] theorem AFW:Tryz.prog.cellsOf 3=1:=by kernel_rfl
@[simp] theorem A56(cs:List V):BL Tryz.prog 3 cs=cs[0]?:=by kernel_rfl
@[simp] theorem BA9(cs:List V)(o:Nat):MI Tryz.prog 3 cs o=cs[o]?:=by kernel_rfl
@[simp] theorem AFX:Tryz.prog.cellsOf 4=1:=by kernel_rfl
@[simp] theorem A57(cs:List V):BL Tryz.prog 4 cs=cs[0]?:=by kernel_rfl
@[simp] theorem zA:Tryz.prog.cellsOf 22=1:=by kernel_rfl
@[simp] theorem AZH(cs:List V):BL Tryz.prog 22 cs=cs[0]?:=by kernel_rfl
@[simp] theorem fW:Tryz.prog.cellsOf 23=1:=by kernel_rfl
@[simp] theorem AZI(cs:List V):BL Tryz.prog 23 cs=cs[0]?:=by kernel_rfl
@[simp] theorem A58:Tryz.prog.bytesOf 3=8∧B5 Tryz.prog 3=some [.int .i64 0]∧V3 Tryz.prog 3=true∧Tryz.prog.bytesOf 4=1∧B5 Tryz.prog 4=some [.bool false]∧V3 Tryz.prog 4=true∧Tryz.prog.bytesOf 22=24∧B5 Tryz.prog 22=some [.nil]∧V3 Tryz.prog 22=true∧BI Tryz.prog 22=(some (none,3))∧C8 Tryz.prog 22=true∧BI Tryz.prog 23=(some (none,22)):=by and_intros<;>kernel_rfl
@[simp] theorem zC:Tryz.prog.cellsOf 24=1:=by kernel_rfl
@[simp] theorem AZJ(cs:List V):BL Tryz.prog 24 cs=cs[0]?:=by kernel_rfl
@[simp] theorem zD:Tryz.prog.cellsOf 25=1:=by kernel_rfl
@[simp] theorem AZK(cs:List V):BL Tryz.prog 25 cs=cs[0]?:=by kernel_rfl
@[simp] theorem fX:Tryz.prog.cellsOf 27=9:=by kernel_rfl
@[simp] theorem AZL(cs:List V):BL Tryz.prog 27 cs=if 9≤cs.length then some (.agg (cs.take 9)) else none:=by kernel_rfl
@[simp] theorem BBA:C8 Tryz.prog 23=true∧BI Tryz.prog 24=(some (none,59))∧C8 Tryz.prog 24=true∧BI Tryz.prog 25=(some (none,188))∧C8 Tryz.prog 25=true∧A1 Tryz.prog 27 0=some (3,0)∧A1 Tryz.prog 27 1=some (3,1)∧A1 Tryz.prog 27 2=some (3,2)∧A1 Tryz.prog 27 3=some (3,3)∧A1 Tryz.prog 27 4=some (22,4)∧A1 Tryz.prog 27 5=some (22,5)∧A1 Tryz.prog 27 6=some (23,6):=by and_intros<;>kernel_rfl
@[simp] theorem zE:Tryz.prog.cellsOf 28=1:=by kernel_rfl
@[simp] theorem AZM(cs:List V):BL Tryz.prog 28 cs=cs[0]?:=by kernel_rfl
@[simp] theorem zF:Tryz.prog.cellsOf 29=1:=by kernel_rfl
@[simp] theorem AZN(cs:List V):BL Tryz.prog 29 cs=cs[0]?:=by kernel_rfl
@[simp] theorem zG:Tryz.prog.cellsOf 31=12:=by kernel_rfl
@[simp] theorem AZO(cs:List V):BL Tryz.prog 31 cs=if 12≤cs.length then some (.agg (cs.take 12)) else none:=by kernel_rfl
@[simp] theorem AZP(cs:List V):BL Tryz.prog 37 cs=cs[0]?:=by kernel_rfl
@[simp] theorem AZQ:A1 Tryz.prog 27 7=some (24,7)∧A1 Tryz.prog 27 8=some (25,8)∧BI Tryz.prog 28=(some (none,97))∧C8 Tryz.prog 28=true∧BI Tryz.prog 29=(some (none,57))∧C8 Tryz.prog 29=true∧A1 Tryz.prog 31 0=some (27,0)∧A1 Tryz.prog 31 1=some (23,9)∧A1 Tryz.prog 31 2=some (28,10)∧A1 Tryz.prog 31 3=some (29,11)∧Tryz.prog.cellsOf 37=1∧BI Tryz.prog 37=(some (none,86)):=by and_intros<;>kernel_rfl
@[simp] theorem AZR(cs:List V):BL Tryz.prog 38 cs=cs[0]?:=by kernel_rfl
@[simp] theorem AZS(cs:List V):BL Tryz.prog 40 cs=if 9≤cs.length then some (.agg (cs.take 9)) else none:=by kernel_rfl
@[simp] theorem BBB:C8 Tryz.prog 37=true∧Tryz.prog.cellsOf 38=1∧BI Tryz.prog 38=(some (none,99))∧C8 Tryz.prog 38=true∧Tryz.prog.cellsOf 40=9∧B5 Tryz.prog 40=some [.int .i64 0,.int .i64 0,.int .i64 0,.int .i64 0,.nil,.nil,.nil,.nil,.nil]∧A1 Tryz.prog 40 0=some (3,0)∧A1 Tryz.prog 40 1=some (3,1)∧A1 Tryz.prog 40 2=some (3,2)∧A1 Tryz.prog 40 3=some (3,3)∧A1 Tryz.prog 40 4=some (22,4)∧A1 Tryz.prog 40 5=some (22,5):=by and_intros<;>kernel_rfl
@[simp] theorem AZT(ps:List (Nat×V)):CR Tryz.prog 40 ps=if (ps.all fun p=>A7 p.2)=true then kR .agg (CZ (fun i=>[(0,1),(1,1),(2,1),(3,1),(4,1),(5,1),(6,1),(7,1),(8,1)][i]?) [.int .i64 0,.int .i64 0,.int .i64 0,.int .i64 0,.nil,.nil,.nil,.nil,.nil] ps) else none:=EC (by kernel_rfl) Tryz.underlying40 (by kernel_rfl) (by kernel_rfl) ps
@[simp] theorem AZU(cs:List V):BL Tryz.prog 41 cs=cs[0]?:=by kernel_rfl
@[simp] theorem AZV(cs:List V):BL Tryz.prog 43 cs=if 12≤cs.length then some (.agg (cs.take 12)) else none:=by kernel_rfl
@[simp] theorem AZW:A1 Tryz.prog 40 6=some (23,6)∧A1 Tryz.prog 40 7=some (37,7)∧A1 Tryz.prog 40 8=some (38,8)∧Tryz.prog.cellsOf 41=1∧BI Tryz.prog 41=(some (none,94))∧C8 Tryz.prog 41=true∧Tryz.prog.cellsOf 43=12∧B5 Tryz.prog 43=some [.int .i64 0,.int .i64 0,.int .i64 0,.int .i64 0,.nil,.nil,.nil,.nil,.nil,.nil,.nil,.nil]∧A1 Tryz.prog 43 0=some (40,0)∧A1 Tryz.prog 43 1=some (23,9)∧A1 Tryz.prog 43 2=some (28,10)∧A1 Tryz.prog 43 3=some (41,11):=by and_intros<;>kernel_rfl
@[simp] theorem AZX(ps:List (Nat×V)):CR Tryz.prog 43 ps=if (ps.all fun p=>A7 p.2)=true then kR .agg (CZ (fun i=>[(0,9),(9,1),(10,1),(11,1)][i]?) [.int .i64 0,.int .i64 0,.int .i64 0,.int .i64 0,.nil,.nil,.nil,.nil,.nil,.nil,.nil,.nil] ps) else none:=EC (by kernel_rfl) Tryz.underlying43 (by kernel_rfl) (by kernel_rfl) ps
@[simp] theorem zH:Tryz.prog.cellsOf 57=4:=by kernel_rfl
@[simp] theorem AZY(cs:List V):BL Tryz.prog 57 cs=if 4≤cs.length then some (.agg (cs.take 4)) else none:=by kernel_rfl
@[simp] theorem AZZ(cs:List V):BL Tryz.prog 59 cs=if 2≤cs.length then some (.agg (cs.take 2)) else none:=by kernel_rfl
@[simp] theorem A59:BI Tryz.prog 49=(some (none,135))∧C8 Tryz.prog 49=true∧BI Tryz.prog 52=(some (none,137))∧B5 Tryz.prog 57=some [.int .i64 0,.int .i64 0,.bool false,.bool false]∧A1 Tryz.prog 57 0=some (3,0)∧A1 Tryz.prog 57 1=some (3,1)∧A1 Tryz.prog 57 2=some (4,2)∧A1 Tryz.prog 57 3=some (4,3)∧Tryz.prog.cellsOf 59=2∧B5 Tryz.prog 59=some [.int .i64 0,.int .i64 0]∧A1 Tryz.prog 59 0=some (3,0)∧A1 Tryz.prog 59 1=some (3,1):=by and_intros<;>kernel_rfl
@[simp] theorem AZ0(ps:List (Nat×V)):CR Tryz.prog 59 ps=if (ps.all fun p=>A7 p.2)=true then kR .agg (CZ (fun i=>[(0,1),(1,1)][i]?) [.int .i64 0,.int .i64 0] ps) else none:=EC (by kernel_rfl) Tryz.underlying59 (by kernel_rfl) (by kernel_rfl) ps
@[simp] theorem AZ1(cs:List V):BL Tryz.prog 86 cs=if 2≤cs.length then some (.agg (cs.take 2)) else none:=by kernel_rfl
@[simp] theorem AZ2(ps:List (Nat×V)):CR Tryz.prog 86 ps=if (ps.all fun p=>A7 p.2)=true then kR .agg (CZ (fun i=>[(0,1),(1,1)][i]?) [.int .i64 0,.int .i64 0] ps) else none:=EC (by kernel_rfl) Tryz.underlying86 (by kernel_rfl) (by kernel_rfl) ps
@[simp] theorem AZ3(cs:List V):BL Tryz.prog 94 cs=if 4≤cs.length then some (.agg (cs.take 4)) else none:=by kernel_rfl
@[simp] theorem AZ4:Tryz.prog.cellsOf 86=2∧Tryz.prog.bytesOf 86=16∧B5 Tryz.prog 86=some [.int .i64 0,.int .i64 0]∧V3 Tryz.prog 86=true∧A1 Tryz.prog 86 0=some (3,0)∧A1 Tryz.prog 86 1=some (3,1)∧Tryz.prog.cellsOf 94=4∧Tryz.prog.bytesOf 94=24∧B5 Tryz.prog 94=some [.int .i64 0,.int .i64 0,.bool false,.bool false]∧V3 Tryz.prog 94=true∧A1 Tryz.prog 94 0=some (3,0)∧A1 Tryz.prog 94 1=some (3,1):=by and_intros<;>kernel_rfl
@[simp] theorem AZ5(ps:List (Nat×V)):CR Tryz.prog 94 ps=if (ps.all fun p=>A7 p.2)=true then kR .agg (CZ (fun i=>[(0,1),(1,1),(2,1),(3,1)][i]?) [.int .i64 0,.int .i64 0,.bool false,.bool false] ps) else none:=EC (by kernel_rfl) Tryz.underlying94 (by kernel_rfl) (by kernel_rfl) ps
@[simp] theorem AZ6(cs:List V):BL Tryz.prog 97 cs=cs[0]?:=by kernel_rfl
@[simp] theorem AZ7:A1 Tryz.prog 94 2=some (4,2)∧A1 Tryz.prog 94 3=some (4,3)∧Tryz.prog.cellsOf 97=1∧Tryz.prog.bytesOf 97=24∧B5 Tryz.prog 97=some [.nil]∧V3 Tryz.prog 97=true∧BI Tryz.prog 97=(some (none,4))∧C8 Tryz.prog 97=true∧Tryz.prog.cellsOf 99=2∧Tryz.prog.bytesOf 99=16∧B5 Tryz.prog 99=some [.int .i64 0,.int .i64 0]∧V3 Tryz.prog 99=true:=by and_intros<;>kernel_rfl
@[simp] theorem AZ8(cs:List V):BL Tryz.prog 99 cs=if 2≤cs.length then some (.agg (cs.take 2)) else none:=by kernel_rfl
@[simp] theorem AZ9(ps:List (Nat×V)):CR Tryz.prog 99 ps=if (ps.all fun p=>A7 p.2)=true then kR .agg (CZ (fun i=>[(0,1),(1,1)][i]?) [.int .i64 0,.int .i64 0] ps) else none:=EC (by kernel_rfl) Tryz.underlying99 (by kernel_rfl) (by kernel_rfl) ps
@[simp] theorem ARY(ps:List (Nat×V)):CR Tryz.prog 135 ps=if (ps.all fun p=>A7 p.2)=true then kR .agg (CZ (fun i=>[(0,1),(1,1)][i]?) [.int .i64 0,.int .i64 0] ps) else none:=EC (by kernel_rfl) Tryz.underlying135 (by kernel_rfl) (by kernel_rfl) ps
@[simp] theorem A0A:A1 Tryz.prog 99 0=some (3,0)∧A1 Tryz.prog 99 1=some (3,1)∧BI Tryz.prog 120=(some (none,153))∧C8 Tryz.prog 120=true∧BI Tryz.prog 123=(some (none,156))∧Tryz.prog.cellsOf 135=2∧Tryz.prog.bytesOf 135=16∧B5 Tryz.prog 135=some [.int .i64 0,.int .i64 0]∧V3 Tryz.prog 135=true∧A1 Tryz.prog 135 0=some (3,0)∧A1 Tryz.prog 135 1=some (3,1)∧Tryz.prog.cellsOf 137=1:=by and_intros<;>kernel_rfl
@[simp] theorem ARZ(cs:List V):BL Tryz.prog 137 cs=cs[0]?:=by kernel_rfl
@[simp] theorem AR0(cs:List V):BL Tryz.prog 139 cs=if 3≤cs.length then some (.agg (cs.take 3)) else none:=by kernel_rfl
@[simp] theorem AR1:Tryz.prog.bytesOf 137=24∧B5 Tryz.prog 137=some [.nil]∧V3 Tryz.prog 137=true∧BI Tryz.prog 137=(some (none,139))∧Tryz.prog.cellsOf 139=3∧Tryz.prog.bytesOf 139=24∧B5 Tryz.prog 139=some [.int .i64 0,.int .i64 0,.int .i64 0]∧V3 Tryz.prog 139=true∧A1 Tryz.prog 139 0=some (3,0)∧A1 Tryz.prog 139 1=some (3,1)∧A1 Tryz.prog 139 2=some (3,2)∧Tryz.prog.cellsOf 151=2:=by and_intros<;>kernel_rfl
@[simp] theorem AR2(cs:List V):BL Tryz.prog 151 cs=if 2≤cs.length then some (.agg (cs.take 2)) else none:=by kernel_rfl
@[simp] theorem AR3(ps:List (Nat×V)):CR Tryz.prog 151 ps=if (ps.all fun p=>A7 p.2)=true then kR .agg (CZ (fun i=>[(0,1),(1,1)][i]?) [.int .i64 0,.int .i64 0] ps) else none:=EC (by kernel_rfl) Tryz.underlying151 (by kernel_rfl) (by kernel_rfl) ps
@[simp] theorem AR4(cs:List V):BL Tryz.prog 153 cs=if 4≤cs.length then some (.agg (cs.take 4)) else none:=by kernel_rfl
@[simp] theorem AR5(ps:List (Nat×V)):CR Tryz.prog 153 ps=if (ps.all fun p=>A7 p.2)=true then kR .agg (CZ (fun i=>[(0,2),(2,2)][i]?) [.int .i64 0,.int .i64 0,.int .i64 0,.int .i64 0] ps) else none:=EC (by kernel_rfl) Tryz.underlying153 (by kernel_rfl) (by kernel_rfl) ps
@[simp] theorem AR6:Tryz.prog.bytesOf 151=16∧B5 Tryz.prog 151=some [.int .i64 0,.int .i64 0]∧V3 Tryz.prog 151=true∧A1 Tryz.prog 151 0=some (3,0)∧A1 Tryz.prog 151 1=some (3,1)∧Tryz.prog.cellsOf 153=4∧Tryz.prog.bytesOf 153=32∧B5 Tryz.prog 153=some [.int .i64 0,.int .i64 0,.int .i64 0,.int .i64 0]∧V3 Tryz.prog 153=true∧A1 Tryz.prog 153 0=some (151,0)∧A1 Tryz.prog 153 1=some (86,2)∧Tryz.prog.cellsOf 155=3:=by and_intros<;>kernel_rfl
@[simp] theorem AR7(cs:List V):BL Tryz.prog 155 cs=if 3≤cs.length then some (.agg (cs.take 3)) else none:=by kernel_rfl
@[simp] theorem AR8(cs:List V):BL Tryz.prog 156 cs=cs[0]?:=by kernel_rfl
@[simp] theorem AR9:Tryz.prog.bytesOf 155=24∧B5 Tryz.prog 155=some [.int .i64 0,.int .i64 0,.int .i64 0]∧A1 Tryz.prog 155 0=some (3,0)∧A1 Tryz.prog 155 1=some (3,1)∧A1 Tryz.prog 155 2=some (3,2)∧Tryz.prog.cellsOf 156=1∧Tryz.prog.bytesOf 156=24∧B5 Tryz.prog 156=some [.nil]∧V3 Tryz.prog 156=true∧BI Tryz.prog 156=(some (none,155))∧C8 Tryz.prog 156=true∧BI Tryz.prog 170=(some (none,151)):=by and_intros<;>kernel_rfl
@[simp] theorem ASA(cs:List V):BL Tryz.prog 172 cs=cs[0]?:=by kernel_rfl
@[simp] theorem ASB(ps:List (Nat×V)):CR Tryz.prog 175 ps=if (ps.all fun p=>A7 p.2)=true then kR .agg (CZ (fun i=>[(0,12),(12,1),(13,1)][i]?) [.int .i64 0,.int .i64 0,.int .i64 0,.int .i64 0,.nil,.nil,.nil,.nil,.nil,.nil,.nil,.nil,.nil,(.raw (.map none))] ps) else none:=EC (by kernel_rfl) Tryz.underlying175 (by kernel_rfl) (by kernel_rfl) ps
@[simp] theorem ASC(cs:List V):BL Tryz.prog 177 cs=cs[0]?:=by kernel_rfl
@[simp] theorem ASD(cs:List V):BL Tryz.prog 193 cs=cs[0]?:=by kernel_rfl
@[simp] theorem ASE(cs:List V):BL Tryz.prog 200 cs=cs[0]?:=by kernel_rfl
@[simp] theorem ASF(cs:List V):BL Tryz.prog 203 cs=cs[0]?:=by kernel_rfl
@[simp] theorem A6A:C8 Tryz.prog 170=true∧Tryz.prog.cellsOf 172=1∧BI Tryz.prog 172=(some (none,206))∧A1 Tryz.prog 175 1=some (172,12)∧Tryz.prog.cellsOf 177=1∧B5 Tryz.prog 177=some [(.raw .nilFunc)]∧Tryz.prog.cellsOf 188=2∧A1 Tryz.prog 188 0=some (3,0)∧A1 Tryz.prog 188 1=some (3,1)∧BI Tryz.prog 197=(some (none,204))∧C8 Tryz.prog 197=true∧Tryz.prog.cellsOf 204=1:=by and_intros<;>kernel_rfl
@[simp] theorem ASG(cs:List V):BL Tryz.prog 204 cs=cs[0]?:=by kernel_rfl
@[simp] theorem ASH(cs:List V):BL Tryz.prog 206 cs=if 5≤cs.length then some (.agg (cs.take 5)) else none:=by kernel_rfl
@[simp] theorem ASI:Tryz.prog.bytesOf 204=24∧B5 Tryz.prog 204=some [.nil]∧V3 Tryz.prog 204=true∧BI Tryz.prog 204=(some (none,209))∧C8 Tryz.prog 204=true∧Tryz.prog.cellsOf 206=5∧Tryz.prog.bytesOf 206=40∧B5 Tryz.prog 206=some [.int .i64 0,.int .i64 0,.int .i64 0,.int .i64 0,.int .i64 0]∧V3 Tryz.prog 206=true∧BI Tryz.prog 206=(some ((some 5),3))∧Tryz.prog.cellsOf 207=2∧B5 Tryz.prog 207=some [.int .i64 0,.int .i64 0]:=by and_intros<;>kernel_rfl
@[simp] theorem ASJ(cs:List V):BL Tryz.prog 207 cs=if 2≤cs.length then some (.agg (cs.take 2)) else none:=by kernel_rfl
@[simp] theorem ASK(ps:List (Nat×V)):CR Tryz.prog 207 ps=if (ps.all fun p=>A7 p.2)=true then kR .agg (CZ (fun i=>[(0,1),(1,1)][i]?) [.int .i64 0,.int .i64 0] ps) else none:=EC (by kernel_rfl) Tryz.underlying207 (by kernel_rfl) (by kernel_rfl) ps
@[simp] theorem ASL(cs:List V):BL Tryz.prog 209 cs=if 5≤cs.length then some (.agg (cs.take 5)) else none:=by kernel_rfl
@[simp] theorem ASM(cs:List V):BL Tryz.prog 221 cs=cs[0]?:=by kernel_rfl
@[simp] theorem ASN(cs:List V):BL Tryz.prog 225 cs=cs[0]?:=by kernel_rfl
@[simp] theorem ASO(cs:List V):BL Tryz.prog 226 cs=cs[0]?:=by kernel_rfl
@[simp] theorem ASP(cs:List V):BL Tryz.prog 233 cs=cs[0]?:=by kernel_rfl
@[simp] theorem ASQ(cs:List V):BL Tryz.prog 236 cs=cs[0]?:=by kernel_rfl
@[simp] theorem ASR:A1 Tryz.prog 207 0=some (3,0)∧A1 Tryz.prog 207 1=some (3,1)∧Tryz.prog.cellsOf 209=5∧Tryz.prog.bytesOf 209=40∧B5 Tryz.prog 209=some [.int .i64 0,.int .i64 0,.int .i64 0,.int .i64 0,.int .i64 0]∧A1 Tryz.prog 209 0=some (3,0)∧A1 Tryz.prog 209 1=some (207,1)∧A1 Tryz.prog 209 2=some (207,3)∧Tryz.prog.cellsOf 233=1∧B5 Tryz.prog 233=some [(.raw (.pointer none))]∧Tryz.prog.cellsOf 236=1∧A1 Tryz.prog 238 0=some (236,0):=by and_intros<;>kernel_rfl
@[simp] theorem ASS(ps:List (Nat×V)):CR Tryz.prog 238 ps=if (ps.all fun p=>A7 p.2)=true then kR .agg (CZ (fun i=>[(0,1)][i]?) [(.raw .nilFunc)] ps) else none:=EC (by kernel_rfl) Tryz.underlying238 (by kernel_rfl) (by kernel_rfl) ps
@[simp] theorem AST(ps:List (Nat×V)):CR Tryz.prog 250 ps=if (ps.all fun p=>A7 p.2)=true then kR .agg (CZ (fun i=>[(0,9),(9,1),(10,1),(11,1)][i]?) [.int .i64 0,.int .i64 0,.int .i64 0,.int .i64 0,.nil,.nil,.nil,.nil,.nil,.nil,(.raw (.map none)),(.raw (.map none))] ps) else none:=EC (by kernel_rfl) Tryz.underlying250 (by kernel_rfl) (by kernel_rfl) ps
@[simp] theorem ASU:A1 Tryz.prog 250 0=some (40,0)∧A1 Tryz.prog 250 1=some (23,9):=by and_intros<;>kernel_rfl
end Go.Proofs.Tryz.Op
