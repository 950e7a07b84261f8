/- What the seat's types come to. No condition. -/
import Derived.Test.YthhdhbalenanjaaGreatChecked
import Derived.Test.YthhdhbalenanjaaGreatSx
open Go.Proofs.Tryz renaming prog->bj
namespace Go.Proofs.Tryz.Op
open Go Go.Pg
theorem EI{P:Program}{T:TypeId}{z:List V}{fs:Array Field}{tab:List (Nat×Nat)}(hz:CA P T=some z)(hu:P.underlying T=some (.struct fs))(hi:(fs.all fun f=>(P.info? f.type).isSome)=true)(ht:fs.toList.map (fun f=>(f.offset,P.cellsOf f.type))=tab)(ps:List (Nat×V)) :
  CW P T ps=if (ps.all fun p=>A9 p.2)=true then kG .agg (C8 (fun i=>tab[i]?) z ps) else none:=by
 have e:(fun i:Nat=>(fs[i]?).map fun (f:Field)=>(f.offset,P.cellsOf f.type))=fun i=>tab[i]?:=by funext i;rw[<-ht,List.getElem?_map];simp
 unfold CW
 rw[hz,hu]
 simp only[hi,and_true,e]
 cases C8 (fun i=>tab[i]?) z ps<;>rfl
@[simp] theorem AKQ:bj.cellsOf 3=1:=by kernel_rfl
@[simp] theorem A8M(cs:List V):BK bj 3 cs=cs[0]?:=by kernel_rfl
@[simp] theorem BDD(cs:List V)(o:Nat):OR bj 3 cs o=cs[o]?:=by kernel_rfl
@[simp] theorem AKR:bj.cellsOf 4=1:=by kernel_rfl
@[simp] theorem A8N(cs:List V):BK bj 4 cs=cs[0]?:=by kernel_rfl
@[simp] theorem BDE(cs:List V)(o:Nat):OR bj 4 cs o=cs[o]?:=by kernel_rfl
@[simp] theorem AEF:bj.cellsOf 22=1:=by kernel_rfl
@[simp] theorem A2K(cs:List V):BK bj 22 cs=cs[0]?:=by kernel_rfl
@[simp] theorem kY:bj.cellsOf 23=1:=by kernel_rfl
@[simp] theorem A2L(cs:List V):BK bj 23 cs=cs[0]?:=by kernel_rfl
@[simp] theorem A8O:bj.bytesOf 3=8/\CA bj 3=some [.int .i64 0]/\cO bj 3=true/\bj.bytesOf 4=1/\CA bj 4=some [.bool false]/\cO bj 4=true/\bj.bytesOf 22=24/\CA bj 22=some [.nil]/\cO bj 22=true/\BT bj 22=(some (none,3))/\DN bj 22=true/\BT bj 23=(some (none,22)):=by and_intros<;>kernel_rfl
@[simp] theorem AEG:bj.cellsOf 24=1:=by kernel_rfl
@[simp] theorem A2M(cs:List V):BK bj 24 cs=cs[0]?:=by kernel_rfl
@[simp] theorem AEH:bj.cellsOf 25=1:=by kernel_rfl
@[simp] theorem A2N(cs:List V):BK bj 25 cs=cs[0]?:=by kernel_rfl
@[simp] theorem kZ:bj.cellsOf 27=9:=by kernel_rfl
@[simp] theorem A2O(cs:List V):BK bj 27 cs=if 9<=cs.length then some (.agg (cs.take 9)) else none:=by kernel_rfl
@[simp] theorem BDF:DN bj 23=true/\BT bj 24=(some (none,59))/\DN bj 24=true/\BT bj 25=(some (none,188))/\DN bj 25=true/\A4 bj 27 0=some (3,0)/\A4 bj 27 1=some (3,1)/\A4 bj 27 2=some (3,2)/\A4 bj 27 3=some (3,3)/\A4 bj 27 4=some (22,4)/\A4 bj 27 5=some (22,5)/\A4 bj 27 6=some (23,6):=by and_intros<;>kernel_rfl
@[simp] theorem AEI:bj.cellsOf 28=1:=by kernel_rfl
@[simp] theorem A2P(cs:List V):BK bj 28 cs=cs[0]?:=by kernel_rfl
@[simp] theorem AEJ:bj.cellsOf 29=1:=by kernel_rfl
@[simp] theorem A2Q(cs:List V):BK bj 29 cs=cs[0]?:=by kernel_rfl
@[simp] theorem AEK:bj.cellsOf 31=12:=by kernel_rfl
@[simp] theorem A2R(cs:List V):BK bj 31 cs=if 12<=cs.length then some (.agg (cs.take 12)) else none:=by kernel_rfl
@[simp] theorem A2S:A4 bj 27 7=some (24,7)/\A4 bj 27 8=some (25,8)/\BT bj 28=(some (none,97))/\DN bj 28=true/\BT bj 29=(some (none,57))/\DN bj 29=true/\CA bj 31=some [.int .i64 0,.int .i64 0,.int .i64 0,.int .i64 0,.nil,.nil,.nil,.nil,.nil,.nil,.nil,.nil]/\A4 bj 31 0=some (27,0)/\A4 bj 31 1=some (23,9)/\A4 bj 31 2=some (28,10)/\A4 bj 31 3=some (29,11)/\bj.cellsOf 37=1:=by and_intros<;>kernel_rfl
@[simp] theorem A2T(cs:List V):BK bj 37 cs=cs[0]?:=by kernel_rfl
@[simp] theorem A2U(cs:List V):BK bj 38 cs=cs[0]?:=by kernel_rfl
@[simp] theorem A2V(cs:List V):BK bj 40 cs=if 9<=cs.length then some (.agg (cs.take 9)) else none:=by kernel_rfl
@[simp] theorem A8P:CA bj 37=some [.nil]/\BT bj 37=(some (none,86))/\DN bj 37=true/\bj.cellsOf 38=1/\BT bj 38=(some (none,99))/\DN bj 38=true/\bj.cellsOf 40=9/\CA bj 40=some [.int .i64 0,.int .i64 0,.int .i64 0,.int .i64 0,.nil,.nil,.nil,.nil,.nil]/\A4 bj 40 0=some (3,0)/\A4 bj 40 1=some (3,1)/\A4 bj 40 2=some (3,2)/\A4 bj 40 3=some (3,3):=by and_intros<;>kernel_rfl
@[simp] theorem A2W(ps:List (Nat×V)):CW bj 40 ps=if (ps.all fun p=>A9 p.2)=true then kG .agg (C8 (fun i=>[(0,1),(1,1),(2,1),(3,1),(4,1),(5,1),(6,1),(7,1),(8,1)][i]?) [.int .i64 0,.int .i64 0,.int .i64 0,.int .i64 0,.nil,.nil,.nil,.nil,.nil] ps) else none:=EI (by kernel_rfl) Tryz.underlying40 (by kernel_rfl) (by kernel_rfl) ps
@[simp] theorem A2X(cs:List V):BK bj 41 cs=cs[0]?:=by kernel_rfl
@[simp] theorem A2Y(cs:List V):BK bj 43 cs=if 12<=cs.length then some (.agg (cs.take 12)) else none:=by kernel_rfl
@[simp] theorem A2Z:A4 bj 40 4=some (22,4)/\A4 bj 40 5=some (22,5)/\A4 bj 40 6=some (23,6)/\A4 bj 40 7=some (37,7)/\A4 bj 40 8=some (38,8)/\bj.cellsOf 41=1/\BT bj 41=(some (none,94))/\DN bj 41=true/\bj.cellsOf 43=12/\CA bj 43=some [.int .i64 0,.int .i64 0,.int .i64 0,.int .i64 0,.nil,.nil,.nil,.nil,.nil,.nil,.nil,.nil]/\A4 bj 43 0=some (40,0)/\A4 bj 43 1=some (23,9):=by and_intros<;>kernel_rfl
@[simp] theorem A20(ps:List (Nat×V)):CW bj 43 ps=if (ps.all fun p=>A9 p.2)=true then kG .agg (C8 (fun i=>[(0,9),(9,1),(10,1),(11,1)][i]?) [.int .i64 0,.int .i64 0,.int .i64 0,.int .i64 0,.nil,.nil,.nil,.nil,.nil,.nil,.nil,.nil] ps) else none:=EI (by kernel_rfl) Tryz.underlying43 (by kernel_rfl) (by kernel_rfl) ps
@[simp] theorem AEL:bj.cellsOf 57=4:=by kernel_rfl
@[simp] theorem A21(cs:List V):BK bj 57 cs=if 4<=cs.length then some (.agg (cs.take 4)) else none:=by kernel_rfl
@[simp] theorem A22(cs:List V):BK bj 59 cs=if 2<=cs.length then some (.agg (cs.take 2)) else none:=by kernel_rfl
@[simp] theorem A23:A4 bj 43 2=some (28,10)/\A4 bj 43 3=some (41,11)/\CA bj 57=some [.int .i64 0,.int .i64 0,.bool false,.bool false]/\A4 bj 57 0=some (3,0)/\A4 bj 57 1=some (3,1)/\A4 bj 57 2=some (4,2)/\A4 bj 57 3=some (4,3)/\bj.cellsOf 59=2/\bj.bytesOf 59=16/\CA bj 59=some [.int .i64 0,.int .i64 0]/\cO bj 59=true/\A4 bj 59 0=some (3,0):=by and_intros<;>kernel_rfl
@[simp] theorem A24(ps:List (Nat×V)):CW bj 59 ps=if (ps.all fun p=>A9 p.2)=true then kG .agg (C8 (fun i=>[(0,1),(1,1)][i]?) [.int .i64 0,.int .i64 0] ps) else none:=EI (by kernel_rfl) Tryz.underlying59 (by kernel_rfl) (by kernel_rfl) ps
@[simp] theorem A25(cs:List V):BK bj 86 cs=if 2<=cs.length then some (.agg (cs.take 2)) else none:=by kernel_rfl
@[simp] theorem A26(ps:List (Nat×V)):CW bj 86 ps=if (ps.all fun p=>A9 p.2)=true then kG .agg (C8 (fun i=>[(0,1),(1,1)][i]?) [.int .i64 0,.int .i64 0] ps) else none:=EI (by kernel_rfl) Tryz.underlying86 (by kernel_rfl) (by kernel_rfl) ps
@[simp] theorem A27(cs:List V):BK bj 94 cs=if 4<=cs.length then some (.agg (cs.take 4)) else none:=by kernel_rfl
@[simp] theorem A28:A4 bj 59 1=some (3,1)/\bj.cellsOf 86=2/\bj.bytesOf 86=16/\CA bj 86=some [.int .i64 0,.int .i64 0]/\cO bj 86=true/\A4 bj 86 0=some (3,0)/\A4 bj 86 1=some (3,1)/\bj.cellsOf 94=4/\bj.bytesOf 94=24/\CA bj 94=some [.int .i64 0,.int .i64 0,.bool false,.bool false]/\cO bj 94=true/\A4 bj 94 0=some (3,0):=by and_intros<;>kernel_rfl
@[simp] theorem A29(ps:List (Nat×V)):CW bj 94 ps=if (ps.all fun p=>A9 p.2)=true then kG .agg (C8 (fun i=>[(0,1),(1,1),(2,1),(3,1)][i]?) [.int .i64 0,.int .i64 0,.bool false,.bool false] ps) else none:=EI (by kernel_rfl) Tryz.underlying94 (by kernel_rfl) (by kernel_rfl) ps
@[simp] theorem A3A(cs:List V):BK bj 97 cs=cs[0]?:=by kernel_rfl
@[simp] theorem A3B:A4 bj 94 1=some (3,1)/\A4 bj 94 2=some (4,2)/\A4 bj 94 3=some (4,3)/\bj.cellsOf 97=1/\bj.bytesOf 97=24/\CA bj 97=some [.nil]/\cO bj 97=true/\BT bj 97=(some (none,4))/\DN bj 97=true/\bj.cellsOf 99=2/\bj.bytesOf 99=16/\CA bj 99=some [.int .i64 0,.int .i64 0]:=by and_intros<;>kernel_rfl
@[simp] theorem A3C(cs:List V):BK bj 99 cs=if 2<=cs.length then some (.agg (cs.take 2)) else none:=by kernel_rfl
@[simp] theorem A3D(ps:List (Nat×V)):CW bj 99 ps=if (ps.all fun p=>A9 p.2)=true then kG .agg (C8 (fun i=>[(0,1),(1,1)][i]?) [.int .i64 0,.int .i64 0] ps) else none:=EI (by kernel_rfl) Tryz.underlying99 (by kernel_rfl) (by kernel_rfl) ps
@[simp] theorem AVY(cs:List V):BK bj 120 cs=cs[0]?:=by kernel_rfl
@[simp] theorem AVZ(cs:List V):BK bj 130 cs=cs[0]?:=by kernel_rfl
@[simp] theorem BDG:cO bj 99=true/\A4 bj 99 0=some (3,0)/\A4 bj 99 1=some (3,1)/\bj.cellsOf 120=1/\CA bj 120=some [.nil]/\BT bj 120=(some (none,153))/\DN bj 120=true/\bj.cellsOf 130=1/\CA bj 130=some [(.raw (.pointer none))]/\bj.cellsOf 151=2/\bj.bytesOf 151=16/\CA bj 151=some [.int .i64 0,.int .i64 0]:=by and_intros<;>kernel_rfl
@[simp] theorem AV0(cs:List V):BK bj 151 cs=if 2<=cs.length then some (.agg (cs.take 2)) else none:=by kernel_rfl
@[simp] theorem AV1(ps:List (Nat×V)):CW bj 151 ps=if (ps.all fun p=>A9 p.2)=true then kG .agg (C8 (fun i=>[(0,1),(1,1)][i]?) [.int .i64 0,.int .i64 0] ps) else none:=EI (by kernel_rfl) Tryz.underlying151 (by kernel_rfl) (by kernel_rfl) ps
@[simp] theorem AV2(cs:List V):BK bj 153 cs=if 4<=cs.length then some (.agg (cs.take 4)) else none:=by kernel_rfl
@[simp] theorem AV3(ps:List (Nat×V)):CW bj 153 ps=if (ps.all fun p=>A9 p.2)=true then kG .agg (C8 (fun i=>[(0,2),(2,2)][i]?) [.int .i64 0,.int .i64 0,.int .i64 0,.int .i64 0] ps) else none:=EI (by kernel_rfl) Tryz.underlying153 (by kernel_rfl) (by kernel_rfl) ps
@[simp] theorem AV4(cs:List V):BK bj 155 cs=if 3<=cs.length then some (.agg (cs.take 3)) else none:=by kernel_rfl
@[simp] theorem A8Q:cO bj 151=true/\A4 bj 151 0=some (3,0)/\A4 bj 151 1=some (3,1)/\bj.cellsOf 153=4/\bj.bytesOf 153=32/\CA bj 153=some [.int .i64 0,.int .i64 0,.int .i64 0,.int .i64 0]/\cO bj 153=true/\A4 bj 153 0=some (151,0)/\A4 bj 153 1=some (86,2)/\bj.cellsOf 155=3/\CA bj 155=some [.int .i64 0,.int .i64 0,.int .i64 0]/\A4 bj 155 0=some (3,0):=by and_intros<;>kernel_rfl
@[simp] theorem AV5(cs:List V):BK bj 158 cs=if 3<=cs.length then some (.agg (cs.take 3)) else none:=by kernel_rfl
@[simp] theorem AV6(ps:List (Nat×V)):CW bj 158 ps=if (ps.all fun p=>A9 p.2)=true then kG .agg (C8 (fun i=>[(0,1),(1,1),(2,1)][i]?) [.int .i64 0,.int .i64 0,.bool false] ps) else none:=EI (by kernel_rfl) Tryz.underlying158 (by kernel_rfl) (by kernel_rfl) ps
@[simp] theorem AV7(cs:List V):BK bj 168 cs=cs[0]?:=by kernel_rfl
@[simp] theorem AV8(cs:List V):BK bj 170 cs=cs[0]?:=by kernel_rfl
@[simp] theorem AV9:A4 bj 155 1=some (3,1)/\A4 bj 155 2=some (3,2)/\bj.cellsOf 158=3/\CA bj 158=some [.int .i64 0,.int .i64 0,.bool false]/\A4 bj 158 0=some (3,0)/\A4 bj 158 1=some (3,1)/\A4 bj 158 2=some (4,2)/\bj.cellsOf 168=1/\CA bj 168=some [(.raw .nilFunc)]/\bj.cellsOf 170=1/\BT bj 170=(some (none,151))/\DN bj 170=true:=by and_intros<;>kernel_rfl
@[simp] theorem AWA(cs:List V):BK bj 172 cs=cs[0]?:=by kernel_rfl
@[simp] theorem AWB(cs:List V):BK bj 173 cs=cs[0]?:=by kernel_rfl
@[simp] theorem AWC(ps:List (Nat×V)):CW bj 175 ps=if (ps.all fun p=>A9 p.2)=true then kG .agg (C8 (fun i=>[(0,12),(12,1),(13,1)][i]?) [.int .i64 0,.int .i64 0,.int .i64 0,.int .i64 0,.nil,.nil,.nil,.nil,.nil,.nil,.nil,.nil,.nil,(.raw (.map none))] ps) else none:=EI (by kernel_rfl) Tryz.underlying175 (by kernel_rfl) (by kernel_rfl) ps
@[simp] theorem AWD(cs:List V):BK bj 177 cs=cs[0]?:=by kernel_rfl
@[simp] theorem AWE:bj.cellsOf 172=1/\BT bj 172=(some (none,206))/\bj.cellsOf 173=1/\A4 bj 175 0=some (43,0)/\A4 bj 175 1=some (172,12)/\A4 bj 175 2=some (173,13)/\bj.cellsOf 177=1/\CA bj 177=some [(.raw .nilFunc)]/\bj.cellsOf 188=2/\bj.bytesOf 188=16/\CA bj 188=some [.int .i64 0,.int .i64 0]/\cO bj 188=true:=by and_intros<;>kernel_rfl
@[simp] theorem AWF(cs:List V):BK bj 188 cs=if 2<=cs.length then some (.agg (cs.take 2)) else none:=by kernel_rfl
@[simp] theorem AWG(ps:List (Nat×V)):CW bj 188 ps=if (ps.all fun p=>A9 p.2)=true then kG .agg (C8 (fun i=>[(0,1),(1,1)][i]?) [.int .i64 0,.int .i64 0] ps) else none:=EI (by kernel_rfl) Tryz.underlying188 (by kernel_rfl) (by kernel_rfl) ps
@[simp] theorem AWH(cs:List V):BK bj 191 cs=cs[0]?:=by kernel_rfl
@[simp] theorem AWI(cs:List V):BK bj 193 cs=cs[0]?:=by kernel_rfl
@[simp] theorem AWJ(cs:List V):BK bj 200 cs=cs[0]?:=by kernel_rfl
@[simp] theorem AWK(cs:List V):BK bj 203 cs=cs[0]?:=by kernel_rfl
@[simp] theorem AWL(cs:List V):BK bj 204 cs=cs[0]?:=by kernel_rfl
@[simp] theorem AWM:A4 bj 188 0=some (3,0)/\A4 bj 188 1=some (3,1)/\BT bj 197=(some (none,204))/\DN bj 197=true/\bj.cellsOf 204=1/\bj.bytesOf 204=24/\CA bj 204=some [.nil]/\cO bj 204=true/\BT bj 204=(some (none,209))/\DN bj 204=true/\bj.cellsOf 206=5/\bj.bytesOf 206=40:=by and_intros<;>kernel_rfl
@[simp] theorem AWN(cs:List V):BK bj 206 cs=if 5<=cs.length then some (.agg (cs.take 5)) else none:=by kernel_rfl
@[simp] theorem AWO(cs:List V):BK bj 207 cs=if 2<=cs.length then some (.agg (cs.take 2)) else none:=by kernel_rfl
@[simp] theorem AWP(ps:List (Nat×V)):CW bj 207 ps=if (ps.all fun p=>A9 p.2)=true then kG .agg (C8 (fun i=>[(0,1),(1,1)][i]?) [.int .i64 0,.int .i64 0] ps) else none:=EI (by kernel_rfl) Tryz.underlying207 (by kernel_rfl) (by kernel_rfl) ps
@[simp] theorem AWQ(cs:List V):BK bj 209 cs=if 5<=cs.length then some (.agg (cs.take 5)) else none:=by kernel_rfl
@[simp] theorem A3E:CA bj 206=some [.int .i64 0,.int .i64 0,.int .i64 0,.int .i64 0,.int .i64 0]/\cO bj 206=true/\BT bj 206=(some ((some 5),3))/\bj.cellsOf 207=2/\CA bj 207=some [.int .i64 0,.int .i64 0]/\A4 bj 207 0=some (3,0)/\A4 bj 207 1=some (3,1)/\bj.cellsOf 209=5/\bj.bytesOf 209=40/\CA bj 209=some [.int .i64 0,.int .i64 0,.int .i64 0,.int .i64 0,.int .i64 0]/\A4 bj 209 0=some (3,0)/\A4 bj 209 1=some (207,1):=by and_intros<;>kernel_rfl
@[simp] theorem AWR(cs:List V):BK bj 221 cs=cs[0]?:=by kernel_rfl
@[simp] theorem AWS(cs:List V):BK bj 225 cs=cs[0]?:=by kernel_rfl
@[simp] theorem AWT(cs:List V):BK bj 226 cs=cs[0]?:=by kernel_rfl
@[simp] theorem AWU(cs:List V):BK bj 233 cs=cs[0]?:=by kernel_rfl
@[simp] theorem AWV(cs:List V):BK bj 236 cs=cs[0]?:=by kernel_rfl
@[simp] theorem AWW(ps:List (Nat×V)):CW bj 238 ps=if (ps.all fun p=>A9 p.2)=true then kG .agg (C8 (fun i=>[(0,1)][i]?) [(.raw .nilFunc)] ps) else none:=EI (by kernel_rfl) Tryz.underlying238 (by kernel_rfl) (by kernel_rfl) ps
@[simp] theorem AWX(ps:List (Nat×V)):CW bj 250 ps=if (ps.all fun p=>A9 p.2)=true then kG .agg (C8 (fun i=>[(0,9),(9,1),(10,1),(11,1)][i]?) [.int .i64 0,.int .i64 0,.int .i64 0,.int .i64 0,.nil,.nil,.nil,.nil,.nil,.nil,(.raw (.map none)),(.raw (.map none))] ps) else none:=EI (by kernel_rfl) Tryz.underlying250 (by kernel_rfl) (by kernel_rfl) ps
@[simp] theorem AWY:A4 bj 209 2=some (207,3)/\bj.cellsOf 233=1/\CA bj 233=some [(.raw (.pointer none))]/\bj.cellsOf 236=1/\A4 bj 238 0=some (236,0)/\A4 bj 250 0=some (40,0)/\A4 bj 250 1=some (23,9):=by and_intros<;>kernel_rfl
end Go.Proofs.Tryz.Op
