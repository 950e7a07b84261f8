/- What the seat's types come to. No condition. -/
import Derived.Test.YthhdhbalenanjaaGreatChecked
import Derived.Test.YthhdhbalenanjaaGreatSx
open Go.Proofs.Tryz renaming prog->bj
namespace Go.Proofs.Tryz.Op
open Go Go.Pg
theorem EE{P:Program}{T:TypeId}{z:List V}{fs:Array Field}{tab:List (Nat×Nat)}(hz:CA P T=some z)(hu:P.underlying T=some (.struct fs))(hi:(fs.all fun f=>(P.info? f.type).isSome)=true)(ht:fs.toList.map (fun f=>(f.offset,P.cellsOf f.type))=tab)(ps:List (Nat×V)) :
  CS P T ps=if (ps.all fun p=>BE p.2)=true then mC .agg (C8 (fun i=>tab[i]?) z ps) else none:=by
 have e:(fun i:Nat=>(fs[i]?).map fun (f:Field)=>(f.offset,P.cellsOf f.type))=fun i=>tab[i]?:=by funext i;rw[<-ht,List.getElem?_map];simp
 unfold CS
 rw[hz,hu]
 simp only[hi,and_true,e]
 cases C8 (fun i=>tab[i]?) z ps<;>rfl
@[simp] theorem AMX:bj.cellsOf 3=1:=by kernel_rfl
@[simp] theorem BCA(cs:List V):BM bj 3 cs=cs[0]?:=by kernel_rfl
@[simp] theorem BHC(cs:List V)(o:Nat):PA bj 3 cs o=cs[o]?:=by kernel_rfl
@[simp] theorem AMY:bj.cellsOf 4=1:=by kernel_rfl
@[simp] theorem BCB(cs:List V):BM bj 4 cs=cs[0]?:=by kernel_rfl
@[simp] theorem BHD(cs:List V)(o:Nat):PA bj 4 cs o=cs[o]?:=by kernel_rfl
@[simp] theorem AF1:bj.cellsOf 22=1:=by kernel_rfl
@[simp] theorem A5Z(cs:List V):BM bj 22 cs=cs[0]?:=by kernel_rfl
@[simp] theorem nL:bj.cellsOf 23=1:=by kernel_rfl
@[simp] theorem A50(cs:List V):BM bj 23 cs=cs[0]?:=by kernel_rfl
@[simp] theorem BCC:bj.bytesOf 3=8/\CA bj 3=some [.int .i64 0]/\YU bj 3=true/\bj.bytesOf 4=1/\CA bj 4=some [.bool false]/\YU bj 4=true/\bj.bytesOf 22=24/\CA bj 22=some [.nil]/\YU bj 22=true/\BU bj 22=(some (none,3))/\DH bj 22=true/\BU bj 23=(some (none,22)):=by and_intros<;>kernel_rfl
@[simp] theorem AF2:bj.cellsOf 24=1:=by kernel_rfl
@[simp] theorem A51(cs:List V):BM bj 24 cs=cs[0]?:=by kernel_rfl
@[simp] theorem AF3:bj.cellsOf 25=1:=by kernel_rfl
@[simp] theorem A52(cs:List V):BM bj 25 cs=cs[0]?:=by kernel_rfl
@[simp] theorem nM:bj.cellsOf 27=9:=by kernel_rfl
@[simp] theorem A53(cs:List V):BM bj 27 cs=if 9<=cs.length then some (.agg (cs.take 9)) else none:=by kernel_rfl
@[simp] theorem BHE:DH bj 23=true/\bj.bytesOf 24=24/\CA bj 24=some [.nil]/\YU bj 24=true/\BU bj 24=(some (none,59))/\DH bj 24=true/\BU bj 25=(some (none,188))/\DH bj 25=true/\A1 bj 27 0=some (3,0)/\A1 bj 27 1=some (3,1)/\A1 bj 27 2=some (3,2)/\A1 bj 27 3=some (3,3):=by and_intros<;>kernel_rfl
@[simp] theorem AF4:bj.cellsOf 28=1:=by kernel_rfl
@[simp] theorem A54(cs:List V):BM bj 28 cs=cs[0]?:=by kernel_rfl
@[simp] theorem AF5:bj.cellsOf 29=1:=by kernel_rfl
@[simp] theorem A55(cs:List V):BM bj 29 cs=cs[0]?:=by kernel_rfl
@[simp] theorem AF6:bj.cellsOf 31=12:=by kernel_rfl
@[simp] theorem A56(cs:List V):BM bj 31 cs=if 12<=cs.length then some (.agg (cs.take 12)) else none:=by kernel_rfl
@[simp] theorem A57:A1 bj 27 4=some (22,4)/\A1 bj 27 5=some (22,5)/\A1 bj 27 6=some (23,6)/\A1 bj 27 7=some (24,7)/\A1 bj 27 8=some (25,8)/\BU bj 28=(some (none,97))/\DH bj 28=true/\BU bj 29=(some (none,57))/\DH bj 29=true/\CA bj 31=some [.int .i64 0,.int .i64 0,.int .i64 0,.int .i64 0,.nil,.nil,.nil,.nil,.nil,.nil,.nil,.nil]/\A1 bj 31 0=some (27,0)/\A1 bj 31 1=some (23,9):=by and_intros<;>kernel_rfl
@[simp] theorem A58(cs:List V):BM bj 37 cs=cs[0]?:=by kernel_rfl
@[simp] theorem A59(cs:List V):BM bj 38 cs=cs[0]?:=by kernel_rfl
@[simp] theorem A6A(cs:List V):BM bj 40 cs=if 9<=cs.length then some (.agg (cs.take 9)) else none:=by kernel_rfl
@[simp] theorem A6B:A1 bj 31 2=some (28,10)/\A1 bj 31 3=some (29,11)/\bj.cellsOf 37=1/\CA bj 37=some [.nil]/\BU bj 37=(some (none,86))/\DH bj 37=true/\bj.cellsOf 38=1/\BU bj 38=(some (none,99))/\DH bj 38=true/\bj.cellsOf 40=9/\CA bj 40=some [.int .i64 0,.int .i64 0,.int .i64 0,.int .i64 0,.nil,.nil,.nil,.nil,.nil]/\A1 bj 40 0=some (3,0):=by and_intros<;>kernel_rfl
@[simp] theorem A6C(ps:List (Nat×V)):CS bj 40 ps=if (ps.all fun p=>BE p.2)=true then mC .agg (C8 (fun i=>[(0,1),(1,1),(2,1),(3,1),(4,1),(5,1),(6,1),(7,1),(8,1)][i]?) [.int .i64 0,.int .i64 0,.int .i64 0,.int .i64 0,.nil,.nil,.nil,.nil,.nil] ps) else none:=EE (by kernel_rfl) Tryz.underlying40 (by kernel_rfl) (by kernel_rfl) ps
@[simp] theorem A6D(cs:List V):BM bj 41 cs=cs[0]?:=by kernel_rfl
@[simp] theorem A6E:A1 bj 40 1=some (3,1)/\A1 bj 40 2=some (3,2)/\A1 bj 40 3=some (3,3)/\A1 bj 40 4=some (22,4)/\A1 bj 40 5=some (22,5)/\A1 bj 40 6=some (23,6)/\A1 bj 40 7=some (37,7)/\A1 bj 40 8=some (38,8)/\bj.cellsOf 41=1/\BU bj 41=(some (none,94))/\DH bj 41=true/\bj.cellsOf 43=12:=by and_intros<;>kernel_rfl
@[simp] theorem A6F(cs:List V):BM bj 43 cs=if 12<=cs.length then some (.agg (cs.take 12)) else none:=by kernel_rfl
@[simp] theorem A6G(ps:List (Nat×V)):CS bj 43 ps=if (ps.all fun p=>BE p.2)=true then mC .agg (C8 (fun i=>[(0,9),(9,1),(10,1),(11,1)][i]?) [.int .i64 0,.int .i64 0,.int .i64 0,.int .i64 0,.nil,.nil,.nil,.nil,.nil,.nil,.nil,.nil] ps) else none:=EE (by kernel_rfl) Tryz.underlying43 (by kernel_rfl) (by kernel_rfl) ps
@[simp] theorem AF7:bj.cellsOf 57=4:=by kernel_rfl
@[simp] theorem A6H(cs:List V):BM bj 57 cs=if 4<=cs.length then some (.agg (cs.take 4)) else none:=by kernel_rfl
@[simp] theorem BCD:CA bj 43=some [.int .i64 0,.int .i64 0,.int .i64 0,.int .i64 0,.nil,.nil,.nil,.nil,.nil,.nil,.nil,.nil]/\A1 bj 43 0=some (40,0)/\A1 bj 43 1=some (23,9)/\A1 bj 43 2=some (28,10)/\A1 bj 43 3=some (41,11)/\BU bj 49=(some (none,135))/\DH bj 49=true/\BU bj 52=(some (none,137))/\CA bj 57=some [.int .i64 0,.int .i64 0,.bool false,.bool false]/\A1 bj 57 0=some (3,0)/\A1 bj 57 1=some (3,1)/\A1 bj 57 2=some (4,2):=by and_intros<;>kernel_rfl
@[simp] theorem A6I(cs:List V):BM bj 59 cs=if 2<=cs.length then some (.agg (cs.take 2)) else none:=by kernel_rfl
@[simp] theorem A6J(ps:List (Nat×V)):CS bj 59 ps=if (ps.all fun p=>BE p.2)=true then mC .agg (C8 (fun i=>[(0,1),(1,1)][i]?) [.int .i64 0,.int .i64 0] ps) else none:=EE (by kernel_rfl) Tryz.underlying59 (by kernel_rfl) (by kernel_rfl) ps
@[simp] theorem A6K(cs:List V):BM bj 86 cs=if 2<=cs.length then some (.agg (cs.take 2)) else none:=by kernel_rfl
@[simp] theorem A6L:A1 bj 57 3=some (4,3)/\bj.cellsOf 59=2/\bj.bytesOf 59=16/\CA bj 59=some [.int .i64 0,.int .i64 0]/\YU bj 59=true/\A1 bj 59 0=some (3,0)/\A1 bj 59 1=some (3,1)/\bj.cellsOf 86=2/\bj.bytesOf 86=16/\CA bj 86=some [.int .i64 0,.int .i64 0]/\YU bj 86=true/\A1 bj 86 0=some (3,0):=by and_intros<;>kernel_rfl
@[simp] theorem A6M(ps:List (Nat×V)):CS bj 86 ps=if (ps.all fun p=>BE p.2)=true then mC .agg (C8 (fun i=>[(0,1),(1,1)][i]?) [.int .i64 0,.int .i64 0] ps) else none:=EE (by kernel_rfl) Tryz.underlying86 (by kernel_rfl) (by kernel_rfl) ps
@[simp] theorem A6N(cs:List V):BM bj 94 cs=if 4<=cs.length then some (.agg (cs.take 4)) else none:=by kernel_rfl
@[simp] theorem A6O(ps:List (Nat×V)):CS bj 94 ps=if (ps.all fun p=>BE p.2)=true then mC .agg (C8 (fun i=>[(0,1),(1,1),(2,1),(3,1)][i]?) [.int .i64 0,.int .i64 0,.bool false,.bool false] ps) else none:=EE (by kernel_rfl) Tryz.underlying94 (by kernel_rfl) (by kernel_rfl) ps
@[simp] theorem A6P:A1 bj 86 1=some (3,1)/\bj.cellsOf 94=4/\bj.bytesOf 94=24/\CA bj 94=some [.int .i64 0,.int .i64 0,.bool false,.bool false]/\YU bj 94=true/\A1 bj 94 0=some (3,0)/\A1 bj 94 1=some (3,1)/\A1 bj 94 2=some (4,2)/\A1 bj 94 3=some (4,3)/\bj.cellsOf 97=1/\bj.bytesOf 97=24/\CA bj 97=some [.nil]:=by and_intros<;>kernel_rfl
@[simp] theorem A6Q(cs:List V):BM bj 97 cs=cs[0]?:=by kernel_rfl
@[simp] theorem A6R(cs:List V):BM bj 99 cs=if 2<=cs.length then some (.agg (cs.take 2)) else none:=by kernel_rfl
@[simp] theorem A6S(ps:List (Nat×V)):CS bj 99 ps=if (ps.all fun p=>BE p.2)=true then mC .agg (C8 (fun i=>[(0,1),(1,1)][i]?) [.int .i64 0,.int .i64 0] ps) else none:=EE (by kernel_rfl) Tryz.underlying99 (by kernel_rfl) (by kernel_rfl) ps
@[simp] theorem AYX(cs:List V):BM bj 120 cs=cs[0]?:=by kernel_rfl
@[simp] theorem BHF:YU bj 97=true/\BU bj 97=(some (none,4))/\DH bj 97=true/\bj.cellsOf 99=2/\bj.bytesOf 99=16/\CA bj 99=some [.int .i64 0,.int .i64 0]/\YU bj 99=true/\A1 bj 99 0=some (3,0)/\A1 bj 99 1=some (3,1)/\bj.cellsOf 120=1/\CA bj 120=some [.nil]/\BU bj 120=(some (none,153)):=by and_intros<;>kernel_rfl
@[simp] theorem AYY(cs:List V):BM bj 130 cs=cs[0]?:=by kernel_rfl
@[simp] theorem AYZ(cs:List V):BM bj 135 cs=if 2<=cs.length then some (.agg (cs.take 2)) else none:=by kernel_rfl
@[simp] theorem AY0(ps:List (Nat×V)):CS bj 135 ps=if (ps.all fun p=>BE p.2)=true then mC .agg (C8 (fun i=>[(0,1),(1,1)][i]?) [.int .i64 0,.int .i64 0] ps) else none:=EE (by kernel_rfl) Tryz.underlying135 (by kernel_rfl) (by kernel_rfl) ps
@[simp] theorem BCE:DH bj 120=true/\bj.cellsOf 130=1/\bj.cellsOf 135=2/\bj.bytesOf 135=16/\CA bj 135=some [.int .i64 0,.int .i64 0]/\YU bj 135=true/\A1 bj 135 0=some (3,0)/\A1 bj 135 1=some (3,1)/\bj.cellsOf 137=1/\bj.bytesOf 137=24/\CA bj 137=some [.nil]/\YU bj 137=true:=by and_intros<;>kernel_rfl
@[simp] theorem AY1(cs:List V):BM bj 137 cs=cs[0]?:=by kernel_rfl
@[simp] theorem AY2(cs:List V):BM bj 139 cs=if 3<=cs.length then some (.agg (cs.take 3)) else none:=by kernel_rfl
@[simp] theorem A6T:BU bj 137=(some (none,139))/\bj.cellsOf 139=3/\bj.bytesOf 139=24/\CA bj 139=some [.int .i64 0,.int .i64 0,.int .i64 0]/\YU bj 139=true/\A1 bj 139 0=some (3,0)/\A1 bj 139 1=some (3,1)/\A1 bj 139 2=some (3,2)/\bj.cellsOf 151=2/\bj.bytesOf 151=16/\CA bj 151=some [.int .i64 0,.int .i64 0]/\YU bj 151=true:=by and_intros<;>kernel_rfl
@[simp] theorem AY3(cs:List V):BM bj 151 cs=if 2<=cs.length then some (.agg (cs.take 2)) else none:=by kernel_rfl
@[simp] theorem AY4(ps:List (Nat×V)):CS bj 151 ps=if (ps.all fun p=>BE p.2)=true then mC .agg (C8 (fun i=>[(0,1),(1,1)][i]?) [.int .i64 0,.int .i64 0] ps) else none:=EE (by kernel_rfl) Tryz.underlying151 (by kernel_rfl) (by kernel_rfl) ps
@[simp] theorem AY5(cs:List V):BM bj 153 cs=if 4<=cs.length then some (.agg (cs.take 4)) else none:=by kernel_rfl
@[simp] theorem AY6(ps:List (Nat×V)):CS bj 153 ps=if (ps.all fun p=>BE p.2)=true then mC .agg (C8 (fun i=>[(0,2),(2,2)][i]?) [.int .i64 0,.int .i64 0,.int .i64 0,.int .i64 0] ps) else none:=EE (by kernel_rfl) Tryz.underlying153 (by kernel_rfl) (by kernel_rfl) ps
@[simp] theorem AY7(cs:List V):BM bj 155 cs=if 3<=cs.length then some (.agg (cs.take 3)) else none:=by kernel_rfl
@[simp] theorem AY8:A1 bj 151 0=some (3,0)/\A1 bj 151 1=some (3,1)/\bj.cellsOf 153=4/\bj.bytesOf 153=32/\CA bj 153=some [.int .i64 0,.int .i64 0,.int .i64 0,.int .i64 0]/\YU bj 153=true/\A1 bj 153 0=some (151,0)/\A1 bj 153 1=some (86,2)/\bj.cellsOf 155=3/\CA bj 155=some [.int .i64 0,.int .i64 0,.int .i64 0]/\A1 bj 155 0=some (3,0)/\A1 bj 155 1=some (3,1):=by and_intros<;>kernel_rfl
@[simp] theorem AY9(cs:List V):BM bj 158 cs=if 3<=cs.length then some (.agg (cs.take 3)) else none:=by kernel_rfl
@[simp] theorem AZA(ps:List (Nat×V)):CS bj 158 ps=if (ps.all fun p=>BE p.2)=true then mC .agg (C8 (fun i=>[(0,1),(1,1),(2,1)][i]?) [.int .i64 0,.int .i64 0,.bool false] ps) else none:=EE (by kernel_rfl) Tryz.underlying158 (by kernel_rfl) (by kernel_rfl) ps
@[simp] theorem AZB(cs:List V):BM bj 162 cs=if 2<=cs.length then some (.agg (cs.take 2)) else none:=by kernel_rfl
@[simp] theorem AZC(ps:List (Nat×V)):CS bj 162 ps=if (ps.all fun p=>BE p.2)=true then mC .agg (C8 (fun i=>[(0,1),(1,1)][i]?) [.int .i64 0,.int .i64 0] ps) else none:=EE (by kernel_rfl) Tryz.underlying162 (by kernel_rfl) (by kernel_rfl) ps
@[simp] theorem AZD:A1 bj 155 2=some (3,2)/\bj.cellsOf 158=3/\CA bj 158=some [.int .i64 0,.int .i64 0,.bool false]/\A1 bj 158 0=some (3,0)/\A1 bj 158 1=some (3,1)/\A1 bj 158 2=some (4,2)/\bj.cellsOf 162=2/\CA bj 162=some [.int .i64 0,.int .i64 0]/\A1 bj 162 0=some (3,0)/\A1 bj 162 1=some (3,1)/\BU bj 166=(some (none,24))/\DH bj 166=true:=by and_intros<;>kernel_rfl
@[simp] theorem AZE(cs:List V):BM bj 170 cs=cs[0]?:=by kernel_rfl
@[simp] theorem AZF(cs:List V):BM bj 172 cs=cs[0]?:=by kernel_rfl
@[simp] theorem AZG(cs:List V):BM bj 173 cs=cs[0]?:=by kernel_rfl
@[simp] theorem AZH(ps:List (Nat×V)):CS bj 175 ps=if (ps.all fun p=>BE p.2)=true then mC .agg (C8 (fun i=>[(0,12),(12,1),(13,1)][i]?) [.int .i64 0,.int .i64 0,.int .i64 0,.int .i64 0,.nil,.nil,.nil,.nil,.nil,.nil,.nil,.nil,.nil,(.raw (.map none))] ps) else none:=EE (by kernel_rfl) Tryz.underlying175 (by kernel_rfl) (by kernel_rfl) ps
@[simp] theorem AZI:bj.cellsOf 170=1/\BU bj 170=(some (none,151))/\DH bj 170=true/\bj.cellsOf 172=1/\BU bj 172=(some (none,206))/\DH bj 172=true/\bj.cellsOf 173=1/\A1 bj 175 0=some (43,0)/\A1 bj 175 1=some (172,12)/\A1 bj 175 2=some (173,13)/\bj.cellsOf 177=1/\CA bj 177=some [(.raw .nilFunc)]:=by and_intros<;>kernel_rfl
@[simp] theorem AZJ(cs:List V):BM bj 177 cs=cs[0]?:=by kernel_rfl
@[simp] theorem AZK(cs:List V):BM bj 191 cs=cs[0]?:=by kernel_rfl
@[simp] theorem AZL(cs:List V):BM bj 193 cs=cs[0]?:=by kernel_rfl
@[simp] theorem AZM(cs:List V):BM bj 200 cs=cs[0]?:=by kernel_rfl
@[simp] theorem AZN(cs:List V):BM bj 203 cs=cs[0]?:=by kernel_rfl
@[simp] theorem AZO(cs:List V):BM bj 204 cs=cs[0]?:=by kernel_rfl
@[simp] theorem AZP:bj.cellsOf 188=2/\A1 bj 188 0=some (3,0)/\A1 bj 188 1=some (3,1)/\BU bj 197=(some (none,204))/\DH bj 197=true/\bj.cellsOf 204=1/\bj.bytesOf 204=24/\CA bj 204=some [.nil]/\YU bj 204=true/\BU bj 204=(some (none,209))/\DH bj 204=true/\bj.cellsOf 206=5:=by and_intros<;>kernel_rfl
@[simp] theorem AZQ(cs:List V):BM bj 206 cs=if 5<=cs.length then some (.agg (cs.take 5)) else none:=by kernel_rfl
@[simp] theorem AZR(cs:List V):BM bj 207 cs=if 2<=cs.length then some (.agg (cs.take 2)) else none:=by kernel_rfl
@[simp] theorem AZS(ps:List (Nat×V)):CS bj 207 ps=if (ps.all fun p=>BE p.2)=true then mC .agg (C8 (fun i=>[(0,1),(1,1)][i]?) [.int .i64 0,.int .i64 0] ps) else none:=EE (by kernel_rfl) Tryz.underlying207 (by kernel_rfl) (by kernel_rfl) ps
@[simp] theorem AZT(cs:List V):BM bj 209 cs=if 5<=cs.length then some (.agg (cs.take 5)) else none:=by kernel_rfl
@[simp] theorem AZU:bj.bytesOf 206=40/\CA bj 206=some [.int .i64 0,.int .i64 0,.int .i64 0,.int .i64 0,.int .i64 0]/\YU bj 206=true/\BU bj 206=(some ((some 5),3))/\bj.cellsOf 207=2/\CA bj 207=some [.int .i64 0,.int .i64 0]/\A1 bj 207 0=some (3,0)/\A1 bj 207 1=some (3,1)/\bj.cellsOf 209=5/\bj.bytesOf 209=40/\CA bj 209=some [.int .i64 0,.int .i64 0,.int .i64 0,.int .i64 0,.int .i64 0]/\A1 bj 209 0=some (3,0):=by and_intros<;>kernel_rfl
@[simp] theorem AZV(cs:List V):BM bj 221 cs=cs[0]?:=by kernel_rfl
@[simp] theorem AZW(cs:List V):BM bj 225 cs=cs[0]?:=by kernel_rfl
@[simp] theorem AZX(cs:List V):BM bj 226 cs=cs[0]?:=by kernel_rfl
@[simp] theorem AZY(cs:List V):BM bj 233 cs=cs[0]?:=by kernel_rfl
@[simp] theorem AZZ(cs:List V):BM bj 236 cs=cs[0]?:=by kernel_rfl
@[simp] theorem AZ0(ps:List (Nat×V)):CS bj 238 ps=if (ps.all fun p=>BE p.2)=true then mC .agg (C8 (fun i=>[(0,1)][i]?) [(.raw .nilFunc)] ps) else none:=EE (by kernel_rfl) Tryz.underlying238 (by kernel_rfl) (by kernel_rfl) ps
@[simp] theorem AZ1(ps:List (Nat×V)):CS bj 250 ps=if (ps.all fun p=>BE p.2)=true then mC .agg (C8 (fun i=>[(0,9),(9,1),(10,1),(11,1)][i]?) [.int .i64 0,.int .i64 0,.int .i64 0,.int .i64 0,.nil,.nil,.nil,.nil,.nil,.nil,(.raw (.map none)),(.raw (.map none))] ps) else none:=EE (by kernel_rfl) Tryz.underlying250 (by kernel_rfl) (by kernel_rfl) ps
@[simp] theorem AZ2:A1 bj 209 1=some (207,1)/\A1 bj 209 2=some (207,3)/\bj.cellsOf 233=1/\CA bj 233=some [(.raw (.pointer none))]/\bj.cellsOf 236=1/\A1 bj 238 0=some (236,0)/\A1 bj 250 0=some (40,0)/\A1 bj 250 1=some (23,9):=by and_intros<;>kernel_rfl
end Go.Proofs.Tryz.Op
