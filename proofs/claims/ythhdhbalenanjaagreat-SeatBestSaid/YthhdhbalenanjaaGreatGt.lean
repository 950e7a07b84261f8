/- What the seat's types come to. No condition. -/
import Derived.Test.YthhdhbalenanjaaGreatChecked
import Derived.Test.YthhdhbalenanjaaGreatSx
open Go.Proofs.Tryz renaming prog->bj
namespace Go.Proofs.Tryz.Op
open Go Go.Pg
theorem EF{P:Program}{T:TypeId}{z:List V}{fs:Array Field}{tab:List (Nat×Nat)}(hz:B9 P T=some z)(hu:P.underlying T=some (.struct fs))(hi:(fs.all fun f=>(P.info? f.type).isSome)=true)(ht:fs.toList.map (fun f=>(f.offset,P.cellsOf f.type))=tab)(ps:List (Nat×V)) :
  CS P T ps=if (ps.all fun p=>BH p.2)=true then lS .agg (DB (fun i=>tab[i]?) z ps) else none:=by
 have e:(fun i:Nat=>(fs[i]?).map fun (f:Field)=>(f.offset,P.cellsOf f.type))=fun i=>tab[i]?:=by funext i;rw[<-ht,List.getElem?_map];simp
 unfold CS
 rw[hz,hu]
 simp only[hi,and_true,e]
 cases DB (fun i=>tab[i]?) z ps<;>rfl
@[simp] theorem AMJ:bj.cellsOf 3=1:=by kernel_rfl
@[simp] theorem BB2(cs:List V):BQ bj 3 cs=cs[0]?:=by kernel_rfl
@[simp] theorem BGY(cs:List V)(o:Nat):PB bj 3 cs o=cs[o]?:=by kernel_rfl
@[simp] theorem AMK:bj.cellsOf 4=1:=by kernel_rfl
@[simp] theorem BB3(cs:List V):BQ bj 4 cs=cs[0]?:=by kernel_rfl
@[simp] theorem BGZ(cs:List V)(o:Nat):PB bj 4 cs o=cs[o]?:=by kernel_rfl
@[simp] theorem AFR:bj.cellsOf 22=1:=by kernel_rfl
@[simp] theorem A5U(cs:List V):BQ bj 22 cs=cs[0]?:=by kernel_rfl
@[simp] theorem BB4:bj.bytesOf 3=8/\B9 bj 3=some [.int .i64 0]/\YL bj 3=true/\bj.bytesOf 4=1/\B9 bj 4=some [.bool false]/\YL bj 4=true/\yH bj 4=true/\bj.bytesOf 22=24/\B9 bj 22=some [.nil]/\YL bj 22=true/\BW bj 22=(some (none,3))/\D3 bj 22=true:=by and_intros<;>kernel_rfl
@[simp] theorem nF:bj.cellsOf 23=1:=by kernel_rfl
@[simp] theorem A5V(cs:List V):BQ bj 23 cs=cs[0]?:=by kernel_rfl
@[simp] theorem AFS:bj.cellsOf 24=1:=by kernel_rfl
@[simp] theorem A5W(cs:List V):BQ bj 24 cs=cs[0]?:=by kernel_rfl
@[simp] theorem AFT:bj.cellsOf 25=1:=by kernel_rfl
@[simp] theorem A5X(cs:List V):BQ bj 25 cs=cs[0]?:=by kernel_rfl
@[simp] theorem nG:bj.cellsOf 27=9:=by kernel_rfl
@[simp] theorem A5Y(cs:List V):BQ bj 27 cs=if 9<=cs.length then some (.agg (cs.take 9)) else none:=by kernel_rfl
@[simp] theorem BB5:BW bj 23=(some (none,22))/\D3 bj 23=true/\bj.bytesOf 24=24/\B9 bj 24=some [.nil]/\YL bj 24=true/\BW bj 24=(some (none,59))/\D3 bj 24=true/\BW bj 25=(some (none,188))/\D3 bj 25=true/\A3 bj 27 0=some (3,0)/\A3 bj 27 1=some (3,1)/\A3 bj 27 2=some (3,2):=by and_intros<;>kernel_rfl
@[simp] theorem AFU:bj.cellsOf 28=1:=by kernel_rfl
@[simp] theorem A5Z(cs:List V):BQ bj 28 cs=cs[0]?:=by kernel_rfl
@[simp] theorem AFV:bj.cellsOf 29=1:=by kernel_rfl
@[simp] theorem A50(cs:List V):BQ bj 29 cs=cs[0]?:=by kernel_rfl
@[simp] theorem AFW:bj.cellsOf 31=12:=by kernel_rfl
@[simp] theorem A51(cs:List V):BQ bj 31 cs=if 12<=cs.length then some (.agg (cs.take 12)) else none:=by kernel_rfl
@[simp] theorem A52:A3 bj 27 3=some (3,3)/\A3 bj 27 4=some (22,4)/\A3 bj 27 5=some (22,5)/\A3 bj 27 6=some (23,6)/\A3 bj 27 7=some (24,7)/\A3 bj 27 8=some (25,8)/\BW bj 28=(some (none,97))/\D3 bj 28=true/\BW bj 29=(some (none,57))/\D3 bj 29=true/\A3 bj 31 0=some (27,0)/\A3 bj 31 1=some (23,9):=by and_intros<;>kernel_rfl
@[simp] theorem A53(cs:List V):BQ bj 37 cs=cs[0]?:=by kernel_rfl
@[simp] theorem A54(cs:List V):BQ bj 38 cs=cs[0]?:=by kernel_rfl
@[simp] theorem A55(cs:List V):BQ bj 40 cs=if 9<=cs.length then some (.agg (cs.take 9)) else none:=by kernel_rfl
@[simp] theorem A56:A3 bj 31 2=some (28,10)/\A3 bj 31 3=some (29,11)/\bj.cellsOf 37=1/\B9 bj 37=some [.nil]/\BW bj 37=(some (none,86))/\D3 bj 37=true/\bj.cellsOf 38=1/\BW bj 38=(some (none,99))/\D3 bj 38=true/\bj.cellsOf 40=9/\B9 bj 40=some [.int .i64 0,.int .i64 0,.int .i64 0,.int .i64 0,.nil,.nil,.nil,.nil,.nil]/\A3 bj 40 0=some (3,0):=by and_intros<;>kernel_rfl
@[simp] theorem A57(ps:List (Nat×V)):CS bj 40 ps=if (ps.all fun p=>BH p.2)=true then lS .agg (DB (fun i=>[(0,1),(1,1),(2,1),(3,1),(4,1),(5,1),(6,1),(7,1),(8,1)][i]?) [.int .i64 0,.int .i64 0,.int .i64 0,.int .i64 0,.nil,.nil,.nil,.nil,.nil] ps) else none:=EF (by kernel_rfl) Tryz.underlying40 (by kernel_rfl) (by kernel_rfl) ps
@[simp] theorem A58(cs:List V):BQ bj 41 cs=cs[0]?:=by kernel_rfl
@[simp] theorem A59:A3 bj 40 1=some (3,1)/\A3 bj 40 2=some (3,2)/\A3 bj 40 3=some (3,3)/\A3 bj 40 4=some (22,4)/\A3 bj 40 5=some (22,5)/\A3 bj 40 6=some (23,6)/\A3 bj 40 7=some (37,7)/\A3 bj 40 8=some (38,8)/\bj.cellsOf 41=1/\BW bj 41=(some (none,94))/\D3 bj 41=true/\bj.cellsOf 43=12:=by and_intros<;>kernel_rfl
@[simp] theorem A6A(cs:List V):BQ bj 43 cs=if 12<=cs.length then some (.agg (cs.take 12)) else none:=by kernel_rfl
@[simp] theorem A6B(ps:List (Nat×V)):CS bj 43 ps=if (ps.all fun p=>BH p.2)=true then lS .agg (DB (fun i=>[(0,9),(9,1),(10,1),(11,1)][i]?) [.int .i64 0,.int .i64 0,.int .i64 0,.int .i64 0,.nil,.nil,.nil,.nil,.nil,.nil,.nil,.nil] ps) else none:=EF (by kernel_rfl) Tryz.underlying43 (by kernel_rfl) (by kernel_rfl) ps
@[simp] theorem AFX:bj.cellsOf 57=4:=by kernel_rfl
@[simp] theorem A6C(cs:List V):BQ bj 57 cs=if 4<=cs.length then some (.agg (cs.take 4)) else none:=by kernel_rfl
@[simp] theorem BB6:B9 bj 43=some [.int .i64 0,.int .i64 0,.int .i64 0,.int .i64 0,.nil,.nil,.nil,.nil,.nil,.nil,.nil,.nil]/\A3 bj 43 0=some (40,0)/\A3 bj 43 1=some (23,9)/\A3 bj 43 2=some (28,10)/\A3 bj 43 3=some (41,11)/\BW bj 49=(some (none,135))/\D3 bj 49=true/\BW bj 52=(some (none,137))/\B9 bj 57=some [.int .i64 0,.int .i64 0,.bool false,.bool false]/\A3 bj 57 0=some (3,0)/\A3 bj 57 1=some (3,1)/\A3 bj 57 2=some (4,2):=by and_intros<;>kernel_rfl
@[simp] theorem A6D(cs:List V):BQ bj 59 cs=if 2<=cs.length then some (.agg (cs.take 2)) else none:=by kernel_rfl
@[simp] theorem A6E(ps:List (Nat×V)):CS bj 59 ps=if (ps.all fun p=>BH p.2)=true then lS .agg (DB (fun i=>[(0,1),(1,1)][i]?) [.int .i64 0,.int .i64 0] ps) else none:=EF (by kernel_rfl) Tryz.underlying59 (by kernel_rfl) (by kernel_rfl) ps
@[simp] theorem A6F(cs:List V):BQ bj 86 cs=if 2<=cs.length then some (.agg (cs.take 2)) else none:=by kernel_rfl
@[simp] theorem A6G:A3 bj 57 3=some (4,3)/\bj.cellsOf 59=2/\bj.bytesOf 59=16/\B9 bj 59=some [.int .i64 0,.int .i64 0]/\YL bj 59=true/\A3 bj 59 0=some (3,0)/\A3 bj 59 1=some (3,1)/\bj.cellsOf 86=2/\bj.bytesOf 86=16/\B9 bj 86=some [.int .i64 0,.int .i64 0]/\YL bj 86=true/\A3 bj 86 0=some (3,0):=by and_intros<;>kernel_rfl
@[simp] theorem A6H(ps:List (Nat×V)):CS bj 86 ps=if (ps.all fun p=>BH p.2)=true then lS .agg (DB (fun i=>[(0,1),(1,1)][i]?) [.int .i64 0,.int .i64 0] ps) else none:=EF (by kernel_rfl) Tryz.underlying86 (by kernel_rfl) (by kernel_rfl) ps
@[simp] theorem A6I(cs:List V):BQ bj 94 cs=if 4<=cs.length then some (.agg (cs.take 4)) else none:=by kernel_rfl
@[simp] theorem A6J(ps:List (Nat×V)):CS bj 94 ps=if (ps.all fun p=>BH p.2)=true then lS .agg (DB (fun i=>[(0,1),(1,1),(2,1),(3,1)][i]?) [.int .i64 0,.int .i64 0,.bool false,.bool false] ps) else none:=EF (by kernel_rfl) Tryz.underlying94 (by kernel_rfl) (by kernel_rfl) ps
@[simp] theorem A6K:A3 bj 86 1=some (3,1)/\bj.cellsOf 94=4/\bj.bytesOf 94=24/\B9 bj 94=some [.int .i64 0,.int .i64 0,.bool false,.bool false]/\YL bj 94=true/\A3 bj 94 0=some (3,0)/\A3 bj 94 1=some (3,1)/\A3 bj 94 2=some (4,2)/\A3 bj 94 3=some (4,3)/\bj.cellsOf 97=1/\bj.bytesOf 97=24/\B9 bj 97=some [.nil]:=by and_intros<;>kernel_rfl
@[simp] theorem A6L(cs:List V):BQ bj 97 cs=cs[0]?:=by kernel_rfl
@[simp] theorem A6M(cs:List V):BQ bj 99 cs=if 2<=cs.length then some (.agg (cs.take 2)) else none:=by kernel_rfl
@[simp] theorem A6N(ps:List (Nat×V)):CS bj 99 ps=if (ps.all fun p=>BH p.2)=true then lS .agg (DB (fun i=>[(0,1),(1,1)][i]?) [.int .i64 0,.int .i64 0] ps) else none:=EF (by kernel_rfl) Tryz.underlying99 (by kernel_rfl) (by kernel_rfl) ps
@[simp] theorem AYK(cs:List V):BQ bj 120 cs=cs[0]?:=by kernel_rfl
@[simp] theorem BG0:YL bj 97=true/\BW bj 97=(some (none,4))/\D3 bj 97=true/\bj.cellsOf 99=2/\bj.bytesOf 99=16/\B9 bj 99=some [.int .i64 0,.int .i64 0]/\YL bj 99=true/\A3 bj 99 0=some (3,0)/\A3 bj 99 1=some (3,1)/\bj.cellsOf 120=1/\B9 bj 120=some [.nil]/\BW bj 120=(some (none,153)):=by and_intros<;>kernel_rfl
@[simp] theorem AYL(cs:List V):BQ bj 130 cs=cs[0]?:=by kernel_rfl
@[simp] theorem AYM(cs:List V):BQ bj 135 cs=if 2<=cs.length then some (.agg (cs.take 2)) else none:=by kernel_rfl
@[simp] theorem AYN(ps:List (Nat×V)):CS bj 135 ps=if (ps.all fun p=>BH p.2)=true then lS .agg (DB (fun i=>[(0,1),(1,1)][i]?) [.int .i64 0,.int .i64 0] ps) else none:=EF (by kernel_rfl) Tryz.underlying135 (by kernel_rfl) (by kernel_rfl) ps
@[simp] theorem BB7:D3 bj 120=true/\bj.cellsOf 130=1/\bj.cellsOf 135=2/\bj.bytesOf 135=16/\B9 bj 135=some [.int .i64 0,.int .i64 0]/\YL bj 135=true/\A3 bj 135 0=some (3,0)/\A3 bj 135 1=some (3,1)/\bj.cellsOf 137=1/\bj.bytesOf 137=24/\B9 bj 137=some [.nil]/\YL bj 137=true:=by and_intros<;>kernel_rfl
@[simp] theorem AYO(cs:List V):BQ bj 137 cs=cs[0]?:=by kernel_rfl
@[simp] theorem AYP(cs:List V):BQ bj 139 cs=if 3<=cs.length then some (.agg (cs.take 3)) else none:=by kernel_rfl
@[simp] theorem A6O:BW bj 137=(some (none,139))/\bj.cellsOf 139=3/\bj.bytesOf 139=24/\B9 bj 139=some [.int .i64 0,.int .i64 0,.int .i64 0]/\YL bj 139=true/\A3 bj 139 0=some (3,0)/\A3 bj 139 1=some (3,1)/\A3 bj 139 2=some (3,2)/\bj.cellsOf 151=2/\bj.bytesOf 151=16/\B9 bj 151=some [.int .i64 0,.int .i64 0]/\YL bj 151=true:=by and_intros<;>kernel_rfl
@[simp] theorem AYQ(cs:List V):BQ bj 151 cs=if 2<=cs.length then some (.agg (cs.take 2)) else none:=by kernel_rfl
@[simp] theorem AYR(ps:List (Nat×V)):CS bj 151 ps=if (ps.all fun p=>BH p.2)=true then lS .agg (DB (fun i=>[(0,1),(1,1)][i]?) [.int .i64 0,.int .i64 0] ps) else none:=EF (by kernel_rfl) Tryz.underlying151 (by kernel_rfl) (by kernel_rfl) ps
@[simp] theorem AYS(cs:List V):BQ bj 153 cs=if 4<=cs.length then some (.agg (cs.take 4)) else none:=by kernel_rfl
@[simp] theorem AYT(ps:List (Nat×V)):CS bj 153 ps=if (ps.all fun p=>BH p.2)=true then lS .agg (DB (fun i=>[(0,2),(2,2)][i]?) [.int .i64 0,.int .i64 0,.int .i64 0,.int .i64 0] ps) else none:=EF (by kernel_rfl) Tryz.underlying153 (by kernel_rfl) (by kernel_rfl) ps
@[simp] theorem AYU(cs:List V):BQ bj 155 cs=if 3<=cs.length then some (.agg (cs.take 3)) else none:=by kernel_rfl
@[simp] theorem AYV:A3 bj 151 0=some (3,0)/\A3 bj 151 1=some (3,1)/\bj.cellsOf 153=4/\bj.bytesOf 153=32/\B9 bj 153=some [.int .i64 0,.int .i64 0,.int .i64 0,.int .i64 0]/\YL bj 153=true/\A3 bj 153 0=some (151,0)/\A3 bj 153 1=some (86,2)/\bj.cellsOf 155=3/\B9 bj 155=some [.int .i64 0,.int .i64 0,.int .i64 0]/\A3 bj 155 0=some (3,0)/\A3 bj 155 1=some (3,1):=by and_intros<;>kernel_rfl
@[simp] theorem AYW(cs:List V):BQ bj 158 cs=if 3<=cs.length then some (.agg (cs.take 3)) else none:=by kernel_rfl
@[simp] theorem AYX(ps:List (Nat×V)):CS bj 158 ps=if (ps.all fun p=>BH p.2)=true then lS .agg (DB (fun i=>[(0,1),(1,1),(2,1)][i]?) [.int .i64 0,.int .i64 0,.bool false] ps) else none:=EF (by kernel_rfl) Tryz.underlying158 (by kernel_rfl) (by kernel_rfl) ps
@[simp] theorem AYY(cs:List V):BQ bj 162 cs=if 2<=cs.length then some (.agg (cs.take 2)) else none:=by kernel_rfl
@[simp] theorem AYZ(ps:List (Nat×V)):CS bj 162 ps=if (ps.all fun p=>BH p.2)=true then lS .agg (DB (fun i=>[(0,1),(1,1)][i]?) [.int .i64 0,.int .i64 0] ps) else none:=EF (by kernel_rfl) Tryz.underlying162 (by kernel_rfl) (by kernel_rfl) ps
@[simp] theorem AY0:A3 bj 155 2=some (3,2)/\bj.cellsOf 158=3/\B9 bj 158=some [.int .i64 0,.int .i64 0,.bool false]/\A3 bj 158 0=some (3,0)/\A3 bj 158 1=some (3,1)/\A3 bj 158 2=some (4,2)/\bj.cellsOf 162=2/\B9 bj 162=some [.int .i64 0,.int .i64 0]/\A3 bj 162 0=some (3,0)/\A3 bj 162 1=some (3,1)/\BW bj 166=(some (none,24))/\D3 bj 166=true:=by and_intros<;>kernel_rfl
@[simp] theorem AY1(cs:List V):BQ bj 170 cs=cs[0]?:=by kernel_rfl
@[simp] theorem AY2(cs:List V):BQ bj 172 cs=cs[0]?:=by kernel_rfl
@[simp] theorem AY3(cs:List V):BQ bj 173 cs=cs[0]?:=by kernel_rfl
@[simp] theorem AY4(ps:List (Nat×V)):CS bj 175 ps=if (ps.all fun p=>BH p.2)=true then lS .agg (DB (fun i=>[(0,12),(12,1),(13,1)][i]?) [.int .i64 0,.int .i64 0,.int .i64 0,.int .i64 0,.nil,.nil,.nil,.nil,.nil,.nil,.nil,.nil,.nil,(.raw (.map none))] ps) else none:=EF (by kernel_rfl) Tryz.underlying175 (by kernel_rfl) (by kernel_rfl) ps
@[simp] theorem AY5(cs:List V):BQ bj 177 cs=cs[0]?:=by kernel_rfl
@[simp] theorem AY6:bj.cellsOf 170=1/\BW bj 170=(some (none,151))/\D3 bj 170=true/\bj.cellsOf 172=1/\BW bj 172=(some (none,206))/\bj.cellsOf 173=1/\A3 bj 175 0=some (43,0)/\A3 bj 175 1=some (172,12)/\A3 bj 175 2=some (173,13)/\bj.cellsOf 177=1/\B9 bj 177=some [(.raw .nilFunc)]/\bj.cellsOf 188=2:=by and_intros<;>kernel_rfl
@[simp] theorem AY7(cs:List V):BQ bj 191 cs=cs[0]?:=by kernel_rfl
@[simp] theorem AY8(cs:List V):BQ bj 193 cs=cs[0]?:=by kernel_rfl
@[simp] theorem AY9(cs:List V):BQ bj 200 cs=cs[0]?:=by kernel_rfl
@[simp] theorem AZA(cs:List V):BQ bj 203 cs=cs[0]?:=by kernel_rfl
@[simp] theorem AZB(cs:List V):BQ bj 204 cs=cs[0]?:=by kernel_rfl
@[simp] theorem AZC:A3 bj 188 0=some (3,0)/\A3 bj 188 1=some (3,1)/\BW bj 197=(some (none,204))/\D3 bj 197=true/\bj.cellsOf 204=1/\bj.bytesOf 204=24/\B9 bj 204=some [.nil]/\YL bj 204=true/\BW bj 204=(some (none,209))/\D3 bj 204=true/\bj.cellsOf 206=5/\bj.bytesOf 206=40:=by and_intros<;>kernel_rfl
@[simp] theorem AZD(cs:List V):BQ bj 206 cs=if 5<=cs.length then some (.agg (cs.take 5)) else none:=by kernel_rfl
@[simp] theorem AZE(cs:List V):BQ bj 207 cs=if 2<=cs.length then some (.agg (cs.take 2)) else none:=by kernel_rfl
@[simp] theorem AZF(ps:List (Nat×V)):CS bj 207 ps=if (ps.all fun p=>BH p.2)=true then lS .agg (DB (fun i=>[(0,1),(1,1)][i]?) [.int .i64 0,.int .i64 0] ps) else none:=EF (by kernel_rfl) Tryz.underlying207 (by kernel_rfl) (by kernel_rfl) ps
@[simp] theorem AZG(cs:List V):BQ bj 209 cs=if 5<=cs.length then some (.agg (cs.take 5)) else none:=by kernel_rfl
@[simp] theorem A6P:B9 bj 206=some [.int .i64 0,.int .i64 0,.int .i64 0,.int .i64 0,.int .i64 0]/\YL bj 206=true/\BW bj 206=(some ((some 5),3))/\bj.cellsOf 207=2/\B9 bj 207=some [.int .i64 0,.int .i64 0]/\A3 bj 207 0=some (3,0)/\A3 bj 207 1=some (3,1)/\bj.cellsOf 209=5/\bj.bytesOf 209=40/\B9 bj 209=some [.int .i64 0,.int .i64 0,.int .i64 0,.int .i64 0,.int .i64 0]/\A3 bj 209 0=some (3,0)/\A3 bj 209 1=some (207,1):=by and_intros<;>kernel_rfl
@[simp] theorem AZH(cs:List V):BQ bj 221 cs=cs[0]?:=by kernel_rfl
@[simp] theorem AZI(cs:List V):BQ bj 225 cs=cs[0]?:=by kernel_rfl
@[simp] theorem AZJ(cs:List V):BQ bj 226 cs=cs[0]?:=by kernel_rfl
@[simp] theorem AZK(cs:List V):BQ bj 233 cs=cs[0]?:=by kernel_rfl
@[simp] theorem AZL(cs:List V):BQ bj 236 cs=cs[0]?:=by kernel_rfl
@[simp] theorem AZM(ps:List (Nat×V)):CS bj 238 ps=if (ps.all fun p=>BH p.2)=true then lS .agg (DB (fun i=>[(0,1)][i]?) [(.raw .nilFunc)] ps) else none:=EF (by kernel_rfl) Tryz.underlying238 (by kernel_rfl) (by kernel_rfl) ps
@[simp] theorem AZN(ps:List (Nat×V)):CS bj 250 ps=if (ps.all fun p=>BH p.2)=true then lS .agg (DB (fun i=>[(0,9),(9,1),(10,1),(11,1)][i]?) [.int .i64 0,.int .i64 0,.int .i64 0,.int .i64 0,.nil,.nil,.nil,.nil,.nil,.nil,(.raw (.map none)),(.raw (.map none))] ps) else none:=EF (by kernel_rfl) Tryz.underlying250 (by kernel_rfl) (by kernel_rfl) ps
@[simp] theorem AZO:A3 bj 209 2=some (207,3)/\bj.cellsOf 233=1/\B9 bj 233=some [(.raw (.pointer none))]/\bj.cellsOf 236=1/\A3 bj 238 0=some (236,0)/\A3 bj 250 0=some (40,0)/\A3 bj 250 1=some (23,9):=by and_intros<;>kernel_rfl
end Go.Proofs.Tryz.Op
