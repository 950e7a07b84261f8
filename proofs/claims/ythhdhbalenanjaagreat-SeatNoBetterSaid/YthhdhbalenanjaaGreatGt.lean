/- What the seat's types come to. No condition. -/
import Derived.Test.YthhdhbalenanjaaGreatChecked
import Derived.Test.YthhdhbalenanjaaGreatSx
namespace Go.Proofs.Tryz.Op
open Go Go.Pg
theorem ER{P:Program}{T:TypeId}{z:List V}{fs:Array Field}{tab:List (Nat×Nat)}(hz:CG P T=some z)(hu:P.underlying T=some (.struct fs))(hi:(fs.all fun f=>(P.info? f.type).isSome)=true)(ht:fs.toList.map (fun f=>(f.offset,P.cellsOf f.type))=tab)(ps:List (Nat×V)) :
  CZ P T ps=if (ps.all fun p=>BJ p.2)=true then nE .agg (DI (fun i=>tab[i]?) z ps) else none:=by
 have e:(fun i:Nat=>(fs[i]?).map fun (f:Field)=>(f.offset,P.cellsOf f.type))=fun i=>tab[i]?:=by funext i;rw[←ht,List.getElem?_map];simp
 unfold CZ
 rw[hz,hu]
 simp only[hi,and_true,e]
 cases DI (fun i=>tab[i]?) z ps<;>rfl
@[simp] theorem AN8:Tryz.prog.cellsOf 3=1:=by kernel_rfl
@[simp] theorem BG5(cs:List V):BS Tryz.prog 3 cs=cs[0]?:=by kernel_rfl
@[simp] theorem BMO(cs:List V)(o:Nat):M2 Tryz.prog 3 cs o=cs[o]?:=by kernel_rfl
@[simp] theorem AN9:Tryz.prog.cellsOf 4=1:=by kernel_rfl
@[simp] theorem BG6(cs:List V):BS Tryz.prog 4 cs=cs[0]?:=by kernel_rfl
@[simp] theorem BMP(cs:List V)(o:Nat):M2 Tryz.prog 4 cs o=cs[o]?:=by kernel_rfl
@[simp] theorem AHF:Tryz.prog.cellsOf 22=1:=by kernel_rfl
@[simp] theorem A93(cs:List V):BS Tryz.prog 22 cs=cs[0]?:=by kernel_rfl
@[simp] theorem oP:Tryz.prog.cellsOf 23=1:=by kernel_rfl
@[simp] theorem A94(cs:List V):BS Tryz.prog 23 cs=cs[0]?:=by kernel_rfl
@[simp] theorem BG7:Tryz.prog.bytesOf 3=8∧CG Tryz.prog 3=some [.int .i64 0]∧ZN Tryz.prog 3=true∧Tryz.prog.bytesOf 4=1∧CG Tryz.prog 4=some [.bool false]∧ZN Tryz.prog 4=true∧Tryz.prog.bytesOf 22=24∧CG Tryz.prog 22=some [.nil]∧ZN Tryz.prog 22=true∧B0 Tryz.prog 22=(some (none,3))∧EG Tryz.prog 22=true∧B0 Tryz.prog 23=(some (none,22)):=by and_intros<;>kernel_rfl
@[simp] theorem AHG:Tryz.prog.cellsOf 24=1:=by kernel_rfl
@[simp] theorem A95(cs:List V):BS Tryz.prog 24 cs=cs[0]?:=by kernel_rfl
@[simp] theorem AHH:Tryz.prog.cellsOf 25=1:=by kernel_rfl
@[simp] theorem A96(cs:List V):BS Tryz.prog 25 cs=cs[0]?:=by kernel_rfl
@[simp] theorem oQ:Tryz.prog.cellsOf 27=9:=by kernel_rfl
@[simp] theorem A97(cs:List V):BS Tryz.prog 27 cs=if 9≤cs.length then some (.agg (cs.take 9)) else none:=by kernel_rfl
@[simp] theorem BMQ:EG Tryz.prog 23=true∧B0 Tryz.prog 24=(some (none,59))∧EG Tryz.prog 24=true∧B0 Tryz.prog 25=(some (none,188))∧EG Tryz.prog 25=true∧A8 Tryz.prog 27 0=some (3,0)∧A8 Tryz.prog 27 1=some (3,1)∧A8 Tryz.prog 27 2=some (3,2)∧A8 Tryz.prog 27 3=some (3,3)∧A8 Tryz.prog 27 4=some (22,4)∧A8 Tryz.prog 27 5=some (22,5)∧A8 Tryz.prog 27 6=some (23,6):=by and_intros<;>kernel_rfl
@[simp] theorem AHI:Tryz.prog.cellsOf 28=1:=by kernel_rfl
@[simp] theorem A98(cs:List V):BS Tryz.prog 28 cs=cs[0]?:=by kernel_rfl
@[simp] theorem AHJ:Tryz.prog.cellsOf 29=1:=by kernel_rfl
@[simp] theorem A99(cs:List V):BS Tryz.prog 29 cs=cs[0]?:=by kernel_rfl
@[simp] theorem AHK:Tryz.prog.cellsOf 31=12:=by kernel_rfl
@[simp] theorem BAA(cs:List V):BS Tryz.prog 31 cs=if 12≤cs.length then some (.agg (cs.take 12)) else none:=by kernel_rfl
@[simp] theorem BAB:A8 Tryz.prog 27 7=some (24,7)∧A8 Tryz.prog 27 8=some (25,8)∧B0 Tryz.prog 28=(some (none,97))∧EG Tryz.prog 28=true∧B0 Tryz.prog 29=(some (none,57))∧EG Tryz.prog 29=true∧A8 Tryz.prog 31 0=some (27,0)∧A8 Tryz.prog 31 1=some (23,9)∧A8 Tryz.prog 31 2=some (28,10)∧A8 Tryz.prog 31 3=some (29,11)∧Tryz.prog.cellsOf 37=1∧CG Tryz.prog 37=some [.nil]:=by and_intros<;>kernel_rfl
@[simp] theorem BAC(cs:List V):BS Tryz.prog 37 cs=cs[0]?:=by kernel_rfl
@[simp] theorem BAD(cs:List V):BS Tryz.prog 38 cs=cs[0]?:=by kernel_rfl
@[simp] theorem BAE(cs:List V):BS Tryz.prog 40 cs=if 9≤cs.length then some (.agg (cs.take 9)) else none:=by kernel_rfl
@[simp] theorem BG8:B0 Tryz.prog 37=(some (none,86))∧EG Tryz.prog 37=true∧Tryz.prog.cellsOf 38=1∧B0 Tryz.prog 38=(some (none,99))∧EG Tryz.prog 38=true∧Tryz.prog.cellsOf 40=9∧CG Tryz.prog 40=some [.int .i64 0,.int .i64 0,.int .i64 0,.int .i64 0,.nil,.nil,.nil,.nil,.nil]∧A8 Tryz.prog 40 0=some (3,0)∧A8 Tryz.prog 40 1=some (3,1)∧A8 Tryz.prog 40 2=some (3,2)∧A8 Tryz.prog 40 3=some (3,3)∧A8 Tryz.prog 40 4=some (22,4):=by and_intros<;>kernel_rfl
@[simp] theorem BAF(ps:List (Nat×V)):CZ Tryz.prog 40 ps=if (ps.all fun p=>BJ p.2)=true then nE .agg (DI (fun i=>[(0,1),(1,1),(2,1),(3,1),(4,1),(5,1),(6,1),(7,1),(8,1)][i]?) [.int .i64 0,.int .i64 0,.int .i64 0,.int .i64 0,.nil,.nil,.nil,.nil,.nil] ps) else none:=ER (by kernel_rfl) Tryz.underlying40 (by kernel_rfl) (by kernel_rfl) ps
@[simp] theorem BAG(cs:List V):BS Tryz.prog 41 cs=cs[0]?:=by kernel_rfl
@[simp] theorem BAH(cs:List V):BS Tryz.prog 43 cs=if 12≤cs.length then some (.agg (cs.take 12)) else none:=by kernel_rfl
@[simp] theorem BAI:A8 Tryz.prog 40 5=some (22,5)∧A8 Tryz.prog 40 6=some (23,6)∧A8 Tryz.prog 40 7=some (37,7)∧A8 Tryz.prog 40 8=some (38,8)∧Tryz.prog.cellsOf 41=1∧B0 Tryz.prog 41=(some (none,94))∧EG Tryz.prog 41=true∧Tryz.prog.cellsOf 43=12∧CG Tryz.prog 43=some [.int .i64 0,.int .i64 0,.int .i64 0,.int .i64 0,.nil,.nil,.nil,.nil,.nil,.nil,.nil,.nil]∧A8 Tryz.prog 43 0=some (40,0)∧A8 Tryz.prog 43 1=some (23,9)∧A8 Tryz.prog 43 2=some (28,10):=by and_intros<;>kernel_rfl
@[simp] theorem BAJ(ps:List (Nat×V)):CZ Tryz.prog 43 ps=if (ps.all fun p=>BJ p.2)=true then nE .agg (DI (fun i=>[(0,9),(9,1),(10,1),(11,1)][i]?) [.int .i64 0,.int .i64 0,.int .i64 0,.int .i64 0,.nil,.nil,.nil,.nil,.nil,.nil,.nil,.nil] ps) else none:=ER (by kernel_rfl) Tryz.underlying43 (by kernel_rfl) (by kernel_rfl) ps
@[simp] theorem AHL:Tryz.prog.cellsOf 57=4:=by kernel_rfl
@[simp] theorem BAK(cs:List V):BS Tryz.prog 57 cs=if 4≤cs.length then some (.agg (cs.take 4)) else none:=by kernel_rfl
@[simp] theorem BAL:A8 Tryz.prog 43 3=some (41,11)∧B0 Tryz.prog 49=(some (none,135))∧EG Tryz.prog 49=true∧B0 Tryz.prog 52=(some (none,137))∧CG Tryz.prog 57=some [.int .i64 0,.int .i64 0,.bool false,.bool false]∧A8 Tryz.prog 57 0=some (3,0)∧A8 Tryz.prog 57 1=some (3,1)∧A8 Tryz.prog 57 2=some (4,2)∧A8 Tryz.prog 57 3=some (4,3)∧Tryz.prog.cellsOf 59=2∧Tryz.prog.bytesOf 59=16∧CG Tryz.prog 59=some [.int .i64 0,.int .i64 0]:=by and_intros<;>kernel_rfl
@[simp] theorem BAM(cs:List V):BS Tryz.prog 59 cs=if 2≤cs.length then some (.agg (cs.take 2)) else none:=by kernel_rfl
@[simp] theorem BAN(ps:List (Nat×V)):CZ Tryz.prog 59 ps=if (ps.all fun p=>BJ p.2)=true then nE .agg (DI (fun i=>[(0,1),(1,1)][i]?) [.int .i64 0,.int .i64 0] ps) else none:=ER (by kernel_rfl) Tryz.underlying59 (by kernel_rfl) (by kernel_rfl) ps
@[simp] theorem BAO(cs:List V):BS Tryz.prog 86 cs=if 2≤cs.length then some (.agg (cs.take 2)) else none:=by kernel_rfl
@[simp] theorem BAP(ps:List (Nat×V)):CZ Tryz.prog 86 ps=if (ps.all fun p=>BJ p.2)=true then nE .agg (DI (fun i=>[(0,1),(1,1)][i]?) [.int .i64 0,.int .i64 0] ps) else none:=ER (by kernel_rfl) Tryz.underlying86 (by kernel_rfl) (by kernel_rfl) ps
@[simp] theorem BMR:ZN Tryz.prog 59=true∧A8 Tryz.prog 59 0=some (3,0)∧A8 Tryz.prog 59 1=some (3,1)∧Tryz.prog.cellsOf 86=2∧Tryz.prog.bytesOf 86=16∧CG Tryz.prog 86=some [.int .i64 0,.int .i64 0]∧ZN Tryz.prog 86=true∧A8 Tryz.prog 86 0=some (3,0)∧A8 Tryz.prog 86 1=some (3,1)∧Tryz.prog.cellsOf 94=4∧Tryz.prog.bytesOf 94=24∧CG Tryz.prog 94=some [.int .i64 0,.int .i64 0,.bool false,.bool false]:=by and_intros<;>kernel_rfl
@[simp] theorem BAQ(cs:List V):BS Tryz.prog 94 cs=if 4≤cs.length then some (.agg (cs.take 4)) else none:=by kernel_rfl
@[simp] theorem BAR(ps:List (Nat×V)):CZ Tryz.prog 94 ps=if (ps.all fun p=>BJ p.2)=true then nE .agg (DI (fun i=>[(0,1),(1,1),(2,1),(3,1)][i]?) [.int .i64 0,.int .i64 0,.bool false,.bool false] ps) else none:=ER (by kernel_rfl) Tryz.underlying94 (by kernel_rfl) (by kernel_rfl) ps
@[simp] theorem BAS(cs:List V):BS Tryz.prog 97 cs=cs[0]?:=by kernel_rfl
@[simp] theorem BMS:ZN Tryz.prog 94=true∧A8 Tryz.prog 94 0=some (3,0)∧A8 Tryz.prog 94 1=some (3,1)∧A8 Tryz.prog 94 2=some (4,2)∧A8 Tryz.prog 94 3=some (4,3)∧Tryz.prog.cellsOf 97=1∧Tryz.prog.bytesOf 97=24∧CG Tryz.prog 97=some [.nil]∧ZN Tryz.prog 97=true∧B0 Tryz.prog 97=(some (none,4))∧EG Tryz.prog 97=true∧Tryz.prog.cellsOf 99=2:=by and_intros<;>kernel_rfl
@[simp] theorem BAT(cs:List V):BS Tryz.prog 99 cs=if 2≤cs.length then some (.agg (cs.take 2)) else none:=by kernel_rfl
@[simp] theorem BAU(ps:List (Nat×V)):CZ Tryz.prog 99 ps=if (ps.all fun p=>BJ p.2)=true then nE .agg (DI (fun i=>[(0,1),(1,1)][i]?) [.int .i64 0,.int .i64 0] ps) else none:=ER (by kernel_rfl) Tryz.underlying99 (by kernel_rfl) (by kernel_rfl) ps
@[simp] theorem A1Z(cs:List V):BS Tryz.prog 100 cs=cs[0]?:=by kernel_rfl
@[simp] theorem A10(cs:List V):BS Tryz.prog 120 cs=cs[0]?:=by kernel_rfl
@[simp] theorem BAV:Tryz.prog.bytesOf 99=16∧CG Tryz.prog 99=some [.int .i64 0,.int .i64 0]∧ZN Tryz.prog 99=true∧A8 Tryz.prog 99 0=some (3,0)∧A8 Tryz.prog 99 1=some (3,1)∧Tryz.prog.cellsOf 100=1∧B0 Tryz.prog 101=(some (none,100))∧EG Tryz.prog 101=true∧Tryz.prog.cellsOf 120=1∧CG Tryz.prog 120=some [.nil]∧B0 Tryz.prog 120=(some (none,153))∧EG Tryz.prog 120=true:=by and_intros<;>kernel_rfl
@[simp] theorem A11(cs:List V):BS Tryz.prog 130 cs=cs[0]?:=by kernel_rfl
@[simp] theorem A12(cs:List V):BS Tryz.prog 135 cs=if 2≤cs.length then some (.agg (cs.take 2)) else none:=by kernel_rfl
@[simp] theorem A13(ps:List (Nat×V)):CZ Tryz.prog 135 ps=if (ps.all fun p=>BJ p.2)=true then nE .agg (DI (fun i=>[(0,1),(1,1)][i]?) [.int .i64 0,.int .i64 0] ps) else none:=ER (by kernel_rfl) Tryz.underlying135 (by kernel_rfl) (by kernel_rfl) ps
@[simp] theorem A14(cs:List V):BS Tryz.prog 137 cs=cs[0]?:=by kernel_rfl
@[simp] theorem A15:Tryz.prog.cellsOf 130=1∧Tryz.prog.cellsOf 135=2∧Tryz.prog.bytesOf 135=16∧CG Tryz.prog 135=some [.int .i64 0,.int .i64 0]∧ZN Tryz.prog 135=true∧A8 Tryz.prog 135 0=some (3,0)∧A8 Tryz.prog 135 1=some (3,1)∧Tryz.prog.cellsOf 137=1∧Tryz.prog.bytesOf 137=24∧CG Tryz.prog 137=some [.nil]∧ZN Tryz.prog 137=true∧B0 Tryz.prog 137=(some (none,139)):=by and_intros<;>kernel_rfl
@[simp] theorem A16(cs:List V):BS Tryz.prog 139 cs=if 3≤cs.length then some (.agg (cs.take 3)) else none:=by kernel_rfl
@[simp] theorem A17(cs:List V):BS Tryz.prog 151 cs=if 2≤cs.length then some (.agg (cs.take 2)) else none:=by kernel_rfl
@[simp] theorem A18:Tryz.prog.cellsOf 139=3∧Tryz.prog.bytesOf 139=24∧CG Tryz.prog 139=some [.int .i64 0,.int .i64 0,.int .i64 0]∧ZN Tryz.prog 139=true∧A8 Tryz.prog 139 0=some (3,0)∧A8 Tryz.prog 139 1=some (3,1)∧A8 Tryz.prog 139 2=some (3,2)∧Tryz.prog.cellsOf 151=2∧Tryz.prog.bytesOf 151=16∧CG Tryz.prog 151=some [.int .i64 0,.int .i64 0]∧ZN Tryz.prog 151=true∧A8 Tryz.prog 151 0=some (3,0):=by and_intros<;>kernel_rfl
@[simp] theorem A19(ps:List (Nat×V)):CZ Tryz.prog 151 ps=if (ps.all fun p=>BJ p.2)=true then nE .agg (DI (fun i=>[(0,1),(1,1)][i]?) [.int .i64 0,.int .i64 0] ps) else none:=ER (by kernel_rfl) Tryz.underlying151 (by kernel_rfl) (by kernel_rfl) ps
@[simp] theorem A2A(cs:List V):BS Tryz.prog 153 cs=if 4≤cs.length then some (.agg (cs.take 4)) else none:=by kernel_rfl
@[simp] theorem A2B(ps:List (Nat×V)):CZ Tryz.prog 153 ps=if (ps.all fun p=>BJ p.2)=true then nE .agg (DI (fun i=>[(0,2),(2,2)][i]?) [.int .i64 0,.int .i64 0,.int .i64 0,.int .i64 0] ps) else none:=ER (by kernel_rfl) Tryz.underlying153 (by kernel_rfl) (by kernel_rfl) ps
@[simp] theorem A2C(cs:List V):BS Tryz.prog 155 cs=if 3≤cs.length then some (.agg (cs.take 3)) else none:=by kernel_rfl
@[simp] theorem A2D:A8 Tryz.prog 151 1=some (3,1)∧Tryz.prog.cellsOf 153=4∧Tryz.prog.bytesOf 153=32∧CG Tryz.prog 153=some [.int .i64 0,.int .i64 0,.int .i64 0,.int .i64 0]∧ZN Tryz.prog 153=true∧A8 Tryz.prog 153 0=some (151,0)∧A8 Tryz.prog 153 1=some (86,2)∧Tryz.prog.cellsOf 155=3∧CG Tryz.prog 155=some [.int .i64 0,.int .i64 0,.int .i64 0]∧A8 Tryz.prog 155 0=some (3,0)∧A8 Tryz.prog 155 1=some (3,1)∧A8 Tryz.prog 155 2=some (3,2):=by and_intros<;>kernel_rfl
@[simp] theorem A2E(cs:List V):BS Tryz.prog 158 cs=if 3≤cs.length then some (.agg (cs.take 3)) else none:=by kernel_rfl
@[simp] theorem A2F(ps:List (Nat×V)):CZ Tryz.prog 158 ps=if (ps.all fun p=>BJ p.2)=true then nE .agg (DI (fun i=>[(0,1),(1,1),(2,1)][i]?) [.int .i64 0,.int .i64 0,.bool false] ps) else none:=ER (by kernel_rfl) Tryz.underlying158 (by kernel_rfl) (by kernel_rfl) ps
@[simp] theorem A2G(cs:List V):BS Tryz.prog 162 cs=if 2≤cs.length then some (.agg (cs.take 2)) else none:=by kernel_rfl
@[simp] theorem A2H(ps:List (Nat×V)):CZ Tryz.prog 162 ps=if (ps.all fun p=>BJ p.2)=true then nE .agg (DI (fun i=>[(0,1),(1,1)][i]?) [.int .i64 0,.int .i64 0] ps) else none:=ER (by kernel_rfl) Tryz.underlying162 (by kernel_rfl) (by kernel_rfl) ps
@[simp] theorem A2I(cs:List V):BS Tryz.prog 170 cs=cs[0]?:=by kernel_rfl
@[simp] theorem A2J:Tryz.prog.cellsOf 158=3∧CG Tryz.prog 158=some [.int .i64 0,.int .i64 0,.bool false]∧A8 Tryz.prog 158 0=some (3,0)∧A8 Tryz.prog 158 1=some (3,1)∧A8 Tryz.prog 158 2=some (4,2)∧Tryz.prog.cellsOf 162=2∧CG Tryz.prog 162=some [.int .i64 0,.int .i64 0]∧A8 Tryz.prog 162 0=some (3,0)∧A8 Tryz.prog 162 1=some (3,1)∧Tryz.prog.cellsOf 170=1∧B0 Tryz.prog 170=(some (none,151))∧EG Tryz.prog 170=true:=by and_intros<;>kernel_rfl
@[simp] theorem A2K(cs:List V):BS Tryz.prog 172 cs=cs[0]?:=by kernel_rfl
@[simp] theorem A2L(cs:List V):BS Tryz.prog 173 cs=cs[0]?:=by kernel_rfl
@[simp] theorem A2M(ps:List (Nat×V)):CZ Tryz.prog 175 ps=if (ps.all fun p=>BJ p.2)=true then nE .agg (DI (fun i=>[(0,12),(12,1),(13,1)][i]?) [.int .i64 0,.int .i64 0,.int .i64 0,.int .i64 0,.nil,.nil,.nil,.nil,.nil,.nil,.nil,.nil,.nil,(.raw (.map none))] ps) else none:=ER (by kernel_rfl) Tryz.underlying175 (by kernel_rfl) (by kernel_rfl) ps
@[simp] theorem A2N(cs:List V):BS Tryz.prog 177 cs=cs[0]?:=by kernel_rfl
@[simp] theorem A2O(cs:List V):BS Tryz.prog 191 cs=cs[0]?:=by kernel_rfl
@[simp] theorem A2P(cs:List V):BS Tryz.prog 193 cs=cs[0]?:=by kernel_rfl
@[simp] theorem A2Q:Tryz.prog.cellsOf 172=1∧B0 Tryz.prog 172=(some (none,206))∧Tryz.prog.cellsOf 173=1∧A8 Tryz.prog 175 0=some (43,0)∧A8 Tryz.prog 175 1=some (172,12)∧A8 Tryz.prog 175 2=some (173,13)∧Tryz.prog.cellsOf 177=1∧CG Tryz.prog 177=some [(.raw .nilFunc)]∧Tryz.prog.cellsOf 188=2∧A8 Tryz.prog 188 0=some (3,0)∧A8 Tryz.prog 188 1=some (3,1)∧B0 Tryz.prog 197=(some (none,204)):=by and_intros<;>kernel_rfl
@[simp] theorem A2R(cs:List V):BS Tryz.prog 200 cs=cs[0]?:=by kernel_rfl
@[simp] theorem A2S(cs:List V):BS Tryz.prog 203 cs=cs[0]?:=by kernel_rfl
@[simp] theorem A2T(cs:List V):BS Tryz.prog 204 cs=cs[0]?:=by kernel_rfl
@[simp] theorem A2U(cs:List V):BS Tryz.prog 206 cs=if 5≤cs.length then some (.agg (cs.take 5)) else none:=by kernel_rfl
@[simp] theorem BG9:EG Tryz.prog 197=true∧Tryz.prog.cellsOf 204=1∧Tryz.prog.bytesOf 204=24∧CG Tryz.prog 204=some [.nil]∧ZN Tryz.prog 204=true∧B0 Tryz.prog 204=(some (none,209))∧EG Tryz.prog 204=true∧Tryz.prog.cellsOf 206=5∧Tryz.prog.bytesOf 206=40∧CG Tryz.prog 206=some [.int .i64 0,.int .i64 0,.int .i64 0,.int .i64 0,.int .i64 0]∧ZN Tryz.prog 206=true∧B0 Tryz.prog 206=(some ((some 5),3)):=by and_intros<;>kernel_rfl
@[simp] theorem A2V(cs:List V):BS Tryz.prog 207 cs=if 2≤cs.length then some (.agg (cs.take 2)) else none:=by kernel_rfl
@[simp] theorem A2W(ps:List (Nat×V)):CZ Tryz.prog 207 ps=if (ps.all fun p=>BJ p.2)=true then nE .agg (DI (fun i=>[(0,1),(1,1)][i]?) [.int .i64 0,.int .i64 0] ps) else none:=ER (by kernel_rfl) Tryz.underlying207 (by kernel_rfl) (by kernel_rfl) ps
@[simp] theorem A2X(cs:List V):BS Tryz.prog 209 cs=if 5≤cs.length then some (.agg (cs.take 5)) else none:=by kernel_rfl
@[simp] theorem A2Y(cs:List V):BS Tryz.prog 221 cs=cs[0]?:=by kernel_rfl
@[simp] theorem A2Z(cs:List V):BS Tryz.prog 225 cs=cs[0]?:=by kernel_rfl
@[simp] theorem A20(cs:List V):BS Tryz.prog 226 cs=cs[0]?:=by kernel_rfl
@[simp] theorem A21:Tryz.prog.cellsOf 207=2∧CG Tryz.prog 207=some [.int .i64 0,.int .i64 0]∧A8 Tryz.prog 207 0=some (3,0)∧A8 Tryz.prog 207 1=some (3,1)∧Tryz.prog.cellsOf 209=5∧Tryz.prog.bytesOf 209=40∧CG Tryz.prog 209=some [.int .i64 0,.int .i64 0,.int .i64 0,.int .i64 0,.int .i64 0]∧A8 Tryz.prog 209 0=some (3,0)∧A8 Tryz.prog 209 1=some (207,1)∧A8 Tryz.prog 209 2=some (207,3)∧Tryz.prog.cellsOf 233=1∧CG Tryz.prog 233=some [(.raw (.pointer none))]:=by and_intros<;>kernel_rfl
@[simp] theorem A22(cs:List V):BS Tryz.prog 233 cs=cs[0]?:=by kernel_rfl
@[simp] theorem A23(cs:List V):BS Tryz.prog 236 cs=cs[0]?:=by kernel_rfl
@[simp] theorem A24(ps:List (Nat×V)):CZ Tryz.prog 238 ps=if (ps.all fun p=>BJ p.2)=true then nE .agg (DI (fun i=>[(0,1)][i]?) [(.raw .nilFunc)] ps) else none:=ER (by kernel_rfl) Tryz.underlying238 (by kernel_rfl) (by kernel_rfl) ps
@[simp] theorem A25(ps:List (Nat×V)):CZ Tryz.prog 250 ps=if (ps.all fun p=>BJ p.2)=true then nE .agg (DI (fun i=>[(0,9),(9,1),(10,1),(11,1)][i]?) [.int .i64 0,.int .i64 0,.int .i64 0,.int .i64 0,.nil,.nil,.nil,.nil,.nil,.nil,(.raw (.map none)),(.raw (.map none))] ps) else none:=ER (by kernel_rfl) Tryz.underlying250 (by kernel_rfl) (by kernel_rfl) ps
@[simp] theorem A26:Tryz.prog.cellsOf 236=1∧A8 Tryz.prog 238 0=some (236,0)∧A8 Tryz.prog 250 0=some (40,0)∧A8 Tryz.prog 250 1=some (23,9):=by and_intros<;>kernel_rfl
end Go.Proofs.Tryz.Op
