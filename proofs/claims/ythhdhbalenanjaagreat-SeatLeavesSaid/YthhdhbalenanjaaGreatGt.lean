/- What the seat's types come to. No condition. -/
import Derived.Test.YthhdhbalenanjaaGreatChecked
import Derived.Test.YthhdhbalenanjaaGreatSx
open Go.Proofs.Tryz renaming prog->bj
namespace Go.Proofs.Tryz.Op
open Go Go.Pg
theorem EE{P:Program}{T:TypeId}{z:List V}{fs:Array Field}{tab:List (Nat×Nat)}(hz:B8 P T=some z)(hu:P.underlying T=some (.struct fs))(hi:(fs.all fun f=>(P.info? f.type).isSome)=true)(ht:fs.toList.map (fun f=>(f.offset,P.cellsOf f.type))=tab)(ps:List (Nat×V)) :
  CQ P T ps=if (ps.all fun p=>BA p.2)=true then lP .agg (C4 (fun i=>tab[i]?) z ps) else none:=by
 have e:(fun i:Nat=>(fs[i]?).map fun (f:Field)=>(f.offset,P.cellsOf f.type))=fun i=>tab[i]?:=by funext i;rw[<-ht,List.getElem?_map];simp
 unfold CQ
 rw[hz,hu]
 simp only[hi,and_true,e]
 cases C4 (fun i=>tab[i]?) z ps<;>rfl
@[simp] theorem ALS:bj.cellsOf 3=1:=by kernel_rfl
@[simp] theorem BAM(cs:List V):BH bj 3 cs=cs[0]?:=by kernel_rfl
@[simp] theorem BFM(cs:List V)(o:Nat):OL bj 3 cs o=cs[o]?:=by kernel_rfl
@[simp] theorem ALT:bj.cellsOf 4=1:=by kernel_rfl
@[simp] theorem BAN(cs:List V):BH bj 4 cs=cs[0]?:=by kernel_rfl
@[simp] theorem BFN(cs:List V)(o:Nat):OL bj 4 cs o=cs[o]?:=by kernel_rfl
@[simp] theorem AEZ:bj.cellsOf 22=1:=by kernel_rfl
@[simp] theorem A4H(cs:List V):BH bj 22 cs=cs[0]?:=by kernel_rfl
@[simp] theorem mG:bj.cellsOf 23=1:=by kernel_rfl
@[simp] theorem A4I(cs:List V):BH bj 23 cs=cs[0]?:=by kernel_rfl
@[simp] theorem BAO:bj.bytesOf 3=8/\B8 bj 3=some [.int .i64 0]/\YP bj 3=true/\bj.bytesOf 4=1/\B8 bj 4=some [.bool false]/\YP bj 4=true/\bj.bytesOf 22=24/\B8 bj 22=some [.nil]/\YP bj 22=true/\BV bj 22=(some (none,3))/\DN bj 22=true/\BV bj 23=(some (none,22)):=by and_intros<;>kernel_rfl
@[simp] theorem AE0:bj.cellsOf 24=1:=by kernel_rfl
@[simp] theorem A4J(cs:List V):BH bj 24 cs=cs[0]?:=by kernel_rfl
@[simp] theorem AE1:bj.cellsOf 25=1:=by kernel_rfl
@[simp] theorem A4K(cs:List V):BH bj 25 cs=cs[0]?:=by kernel_rfl
@[simp] theorem mH:bj.cellsOf 27=9:=by kernel_rfl
@[simp] theorem A4L(cs:List V):BH bj 27 cs=if 9<=cs.length then some (.agg (cs.take 9)) else none:=by kernel_rfl
@[simp] theorem BFO:DN bj 23=true/\BV bj 24=(some (none,59))/\DN bj 24=true/\BV bj 25=(some (none,188))/\DN bj 25=true/\A0 bj 27 0=some (3,0)/\A0 bj 27 1=some (3,1)/\A0 bj 27 2=some (3,2)/\A0 bj 27 3=some (3,3)/\A0 bj 27 4=some (22,4)/\A0 bj 27 5=some (22,5)/\A0 bj 27 6=some (23,6):=by and_intros<;>kernel_rfl
@[simp] theorem AE2:bj.cellsOf 28=1:=by kernel_rfl
@[simp] theorem A4M(cs:List V):BH bj 28 cs=cs[0]?:=by kernel_rfl
@[simp] theorem AE3:bj.cellsOf 29=1:=by kernel_rfl
@[simp] theorem A4N(cs:List V):BH bj 29 cs=cs[0]?:=by kernel_rfl
@[simp] theorem AE4:bj.cellsOf 31=12:=by kernel_rfl
@[simp] theorem A4O(cs:List V):BH bj 31 cs=if 12<=cs.length then some (.agg (cs.take 12)) else none:=by kernel_rfl
@[simp] theorem A4P(cs:List V):BH bj 37 cs=cs[0]?:=by kernel_rfl
@[simp] theorem A4Q:A0 bj 27 7=some (24,7)/\A0 bj 27 8=some (25,8)/\BV bj 28=(some (none,97))/\DN bj 28=true/\BV bj 29=(some (none,57))/\DN bj 29=true/\A0 bj 31 0=some (27,0)/\A0 bj 31 1=some (23,9)/\A0 bj 31 2=some (28,10)/\A0 bj 31 3=some (29,11)/\bj.cellsOf 37=1/\BV bj 37=(some (none,86)):=by and_intros<;>kernel_rfl
@[simp] theorem A4R(cs:List V):BH bj 38 cs=cs[0]?:=by kernel_rfl
@[simp] theorem A4S(cs:List V):BH bj 40 cs=if 9<=cs.length then some (.agg (cs.take 9)) else none:=by kernel_rfl
@[simp] theorem BFP:DN bj 37=true/\bj.cellsOf 38=1/\BV bj 38=(some (none,99))/\DN bj 38=true/\bj.cellsOf 40=9/\B8 bj 40=some [.int .i64 0,.int .i64 0,.int .i64 0,.int .i64 0,.nil,.nil,.nil,.nil,.nil]/\A0 bj 40 0=some (3,0)/\A0 bj 40 1=some (3,1)/\A0 bj 40 2=some (3,2)/\A0 bj 40 3=some (3,3)/\A0 bj 40 4=some (22,4)/\A0 bj 40 5=some (22,5):=by and_intros<;>kernel_rfl
@[simp] theorem A4T(ps:List (Nat×V)):CQ bj 40 ps=if (ps.all fun p=>BA p.2)=true then lP .agg (C4 (fun i=>[(0,1),(1,1),(2,1),(3,1),(4,1),(5,1),(6,1),(7,1),(8,1)][i]?) [.int .i64 0,.int .i64 0,.int .i64 0,.int .i64 0,.nil,.nil,.nil,.nil,.nil] ps) else none:=EE (by kernel_rfl) Tryz.underlying40 (by kernel_rfl) (by kernel_rfl) ps
@[simp] theorem A4U(cs:List V):BH bj 41 cs=cs[0]?:=by kernel_rfl
@[simp] theorem A4V(cs:List V):BH bj 43 cs=if 12<=cs.length then some (.agg (cs.take 12)) else none:=by kernel_rfl
@[simp] theorem A4W:A0 bj 40 6=some (23,6)/\A0 bj 40 7=some (37,7)/\A0 bj 40 8=some (38,8)/\bj.cellsOf 41=1/\BV bj 41=(some (none,94))/\DN bj 41=true/\bj.cellsOf 43=12/\B8 bj 43=some [.int .i64 0,.int .i64 0,.int .i64 0,.int .i64 0,.nil,.nil,.nil,.nil,.nil,.nil,.nil,.nil]/\A0 bj 43 0=some (40,0)/\A0 bj 43 1=some (23,9)/\A0 bj 43 2=some (28,10)/\A0 bj 43 3=some (41,11):=by and_intros<;>kernel_rfl
@[simp] theorem A4X(ps:List (Nat×V)):CQ bj 43 ps=if (ps.all fun p=>BA p.2)=true then lP .agg (C4 (fun i=>[(0,9),(9,1),(10,1),(11,1)][i]?) [.int .i64 0,.int .i64 0,.int .i64 0,.int .i64 0,.nil,.nil,.nil,.nil,.nil,.nil,.nil,.nil] ps) else none:=EE (by kernel_rfl) Tryz.underlying43 (by kernel_rfl) (by kernel_rfl) ps
@[simp] theorem AE5:bj.cellsOf 57=4:=by kernel_rfl
@[simp] theorem A4Y(cs:List V):BH bj 57 cs=if 4<=cs.length then some (.agg (cs.take 4)) else none:=by kernel_rfl
@[simp] theorem BAP:BV bj 49=(some (none,135))/\DN bj 49=true/\BV bj 52=(some (none,137))/\B8 bj 57=some [.int .i64 0,.int .i64 0,.bool false,.bool false]/\A0 bj 57 0=some (3,0)/\A0 bj 57 1=some (3,1)/\A0 bj 57 2=some (4,2)/\A0 bj 57 3=some (4,3)/\bj.cellsOf 59=2/\bj.bytesOf 59=16/\B8 bj 59=some [.int .i64 0,.int .i64 0]/\YP bj 59=true:=by and_intros<;>kernel_rfl
@[simp] theorem A4Z(cs:List V):BH bj 59 cs=if 2<=cs.length then some (.agg (cs.take 2)) else none:=by kernel_rfl
@[simp] theorem A40(ps:List (Nat×V)):CQ bj 59 ps=if (ps.all fun p=>BA p.2)=true then lP .agg (C4 (fun i=>[(0,1),(1,1)][i]?) [.int .i64 0,.int .i64 0] ps) else none:=EE (by kernel_rfl) Tryz.underlying59 (by kernel_rfl) (by kernel_rfl) ps
@[simp] theorem A41(cs:List V):BH bj 86 cs=if 2<=cs.length then some (.agg (cs.take 2)) else none:=by kernel_rfl
@[simp] theorem A42(ps:List (Nat×V)):CQ bj 86 ps=if (ps.all fun p=>BA p.2)=true then lP .agg (C4 (fun i=>[(0,1),(1,1)][i]?) [.int .i64 0,.int .i64 0] ps) else none:=EE (by kernel_rfl) Tryz.underlying86 (by kernel_rfl) (by kernel_rfl) ps
@[simp] theorem A43:A0 bj 59 0=some (3,0)/\A0 bj 59 1=some (3,1)/\bj.cellsOf 86=2/\bj.bytesOf 86=16/\B8 bj 86=some [.int .i64 0,.int .i64 0]/\YP bj 86=true/\A0 bj 86 0=some (3,0)/\A0 bj 86 1=some (3,1)/\bj.cellsOf 94=4/\bj.bytesOf 94=24/\B8 bj 94=some [.int .i64 0,.int .i64 0,.bool false,.bool false]/\YP bj 94=true:=by and_intros<;>kernel_rfl
@[simp] theorem A44(cs:List V):BH bj 94 cs=if 4<=cs.length then some (.agg (cs.take 4)) else none:=by kernel_rfl
@[simp] theorem A45(ps:List (Nat×V)):CQ bj 94 ps=if (ps.all fun p=>BA p.2)=true then lP .agg (C4 (fun i=>[(0,1),(1,1),(2,1),(3,1)][i]?) [.int .i64 0,.int .i64 0,.bool false,.bool false] ps) else none:=EE (by kernel_rfl) Tryz.underlying94 (by kernel_rfl) (by kernel_rfl) ps
@[simp] theorem A46(cs:List V):BH bj 97 cs=cs[0]?:=by kernel_rfl
@[simp] theorem A47:A0 bj 94 0=some (3,0)/\A0 bj 94 1=some (3,1)/\A0 bj 94 2=some (4,2)/\A0 bj 94 3=some (4,3)/\bj.cellsOf 97=1/\bj.bytesOf 97=24/\B8 bj 97=some [.nil]/\YP bj 97=true/\BV bj 97=(some (none,4))/\DN bj 97=true/\bj.cellsOf 99=2/\bj.bytesOf 99=16:=by and_intros<;>kernel_rfl
@[simp] theorem A48(cs:List V):BH bj 99 cs=if 2<=cs.length then some (.agg (cs.take 2)) else none:=by kernel_rfl
@[simp] theorem A49(ps:List (Nat×V)):CQ bj 99 ps=if (ps.all fun p=>BA p.2)=true then lP .agg (C4 (fun i=>[(0,1),(1,1)][i]?) [.int .i64 0,.int .i64 0] ps) else none:=EE (by kernel_rfl) Tryz.underlying99 (by kernel_rfl) (by kernel_rfl) ps
@[simp] theorem AXL(cs:List V):BH bj 120 cs=cs[0]?:=by kernel_rfl
@[simp] theorem AXM(cs:List V):BH bj 130 cs=cs[0]?:=by kernel_rfl
@[simp] theorem BAQ:B8 bj 99=some [.int .i64 0,.int .i64 0]/\YP bj 99=true/\A0 bj 99 0=some (3,0)/\A0 bj 99 1=some (3,1)/\bj.cellsOf 120=1/\B8 bj 120=some [.nil]/\BV bj 120=(some (none,153))/\DN bj 120=true/\bj.cellsOf 130=1/\B8 bj 130=some [(.raw (.pointer none))]/\bj.cellsOf 135=2/\bj.bytesOf 135=16:=by and_intros<;>kernel_rfl
@[simp] theorem AXN(cs:List V):BH bj 135 cs=if 2<=cs.length then some (.agg (cs.take 2)) else none:=by kernel_rfl
@[simp] theorem AXO(ps:List (Nat×V)):CQ bj 135 ps=if (ps.all fun p=>BA p.2)=true then lP .agg (C4 (fun i=>[(0,1),(1,1)][i]?) [.int .i64 0,.int .i64 0] ps) else none:=EE (by kernel_rfl) Tryz.underlying135 (by kernel_rfl) (by kernel_rfl) ps
@[simp] theorem AXP(cs:List V):BH bj 137 cs=cs[0]?:=by kernel_rfl
@[simp] theorem A5A:B8 bj 135=some [.int .i64 0,.int .i64 0]/\YP bj 135=true/\A0 bj 135 0=some (3,0)/\A0 bj 135 1=some (3,1)/\bj.cellsOf 137=1/\bj.bytesOf 137=24/\B8 bj 137=some [.nil]/\YP bj 137=true/\BV bj 137=(some (none,139))/\bj.cellsOf 139=3/\bj.bytesOf 139=24/\B8 bj 139=some [.int .i64 0,.int .i64 0,.int .i64 0]:=by and_intros<;>kernel_rfl
@[simp] theorem AXQ(cs:List V):BH bj 139 cs=if 3<=cs.length then some (.agg (cs.take 3)) else none:=by kernel_rfl
@[simp] theorem AXR(cs:List V):BH bj 151 cs=if 2<=cs.length then some (.agg (cs.take 2)) else none:=by kernel_rfl
@[simp] theorem AXS(ps:List (Nat×V)):CQ bj 151 ps=if (ps.all fun p=>BA p.2)=true then lP .agg (C4 (fun i=>[(0,1),(1,1)][i]?) [.int .i64 0,.int .i64 0] ps) else none:=EE (by kernel_rfl) Tryz.underlying151 (by kernel_rfl) (by kernel_rfl) ps
@[simp] theorem BAR:YP bj 139=true/\A0 bj 139 0=some (3,0)/\A0 bj 139 1=some (3,1)/\A0 bj 139 2=some (3,2)/\bj.cellsOf 151=2/\bj.bytesOf 151=16/\B8 bj 151=some [.int .i64 0,.int .i64 0]/\YP bj 151=true/\A0 bj 151 0=some (3,0)/\A0 bj 151 1=some (3,1)/\bj.cellsOf 153=4/\bj.bytesOf 153=32:=by and_intros<;>kernel_rfl
@[simp] theorem AXT(cs:List V):BH bj 153 cs=if 4<=cs.length then some (.agg (cs.take 4)) else none:=by kernel_rfl
@[simp] theorem AXU(ps:List (Nat×V)):CQ bj 153 ps=if (ps.all fun p=>BA p.2)=true then lP .agg (C4 (fun i=>[(0,2),(2,2)][i]?) [.int .i64 0,.int .i64 0,.int .i64 0,.int .i64 0] ps) else none:=EE (by kernel_rfl) Tryz.underlying153 (by kernel_rfl) (by kernel_rfl) ps
@[simp] theorem AXV(cs:List V):BH bj 155 cs=if 3<=cs.length then some (.agg (cs.take 3)) else none:=by kernel_rfl
@[simp] theorem AXW(cs:List V):BH bj 158 cs=if 3<=cs.length then some (.agg (cs.take 3)) else none:=by kernel_rfl
@[simp] theorem A5B:B8 bj 153=some [.int .i64 0,.int .i64 0,.int .i64 0,.int .i64 0]/\YP bj 153=true/\A0 bj 153 0=some (151,0)/\A0 bj 153 1=some (86,2)/\bj.cellsOf 155=3/\B8 bj 155=some [.int .i64 0,.int .i64 0,.int .i64 0]/\A0 bj 155 0=some (3,0)/\A0 bj 155 1=some (3,1)/\A0 bj 155 2=some (3,2)/\bj.cellsOf 158=3/\B8 bj 158=some [.int .i64 0,.int .i64 0,.bool false]/\A0 bj 158 0=some (3,0):=by and_intros<;>kernel_rfl
@[simp] theorem AXX(cs:List V):BH bj 162 cs=if 2<=cs.length then some (.agg (cs.take 2)) else none:=by kernel_rfl
@[simp] theorem AXY(ps:List (Nat×V)):CQ bj 162 ps=if (ps.all fun p=>BA p.2)=true then lP .agg (C4 (fun i=>[(0,1),(1,1)][i]?) [.int .i64 0,.int .i64 0] ps) else none:=EE (by kernel_rfl) Tryz.underlying162 (by kernel_rfl) (by kernel_rfl) ps
@[simp] theorem AXZ(cs:List V):BH bj 168 cs=cs[0]?:=by kernel_rfl
@[simp] theorem AX0(cs:List V):BH bj 170 cs=cs[0]?:=by kernel_rfl
@[simp] theorem AX1:A0 bj 158 1=some (3,1)/\A0 bj 158 2=some (4,2)/\bj.cellsOf 162=2/\B8 bj 162=some [.int .i64 0,.int .i64 0]/\A0 bj 162 0=some (3,0)/\A0 bj 162 1=some (3,1)/\bj.cellsOf 168=1/\B8 bj 168=some [(.raw .nilFunc)]/\bj.cellsOf 170=1/\BV bj 170=(some (none,151))/\DN bj 170=true/\bj.cellsOf 172=1:=by and_intros<;>kernel_rfl
@[simp] theorem AX2(cs:List V):BH bj 172 cs=cs[0]?:=by kernel_rfl
@[simp] theorem AX3(cs:List V):BH bj 173 cs=cs[0]?:=by kernel_rfl
@[simp] theorem AX4(ps:List (Nat×V)):CQ bj 175 ps=if (ps.all fun p=>BA p.2)=true then lP .agg (C4 (fun i=>[(0,12),(12,1),(13,1)][i]?) [.int .i64 0,.int .i64 0,.int .i64 0,.int .i64 0,.nil,.nil,.nil,.nil,.nil,.nil,.nil,.nil,.nil,(.raw (.map none))] ps) else none:=EE (by kernel_rfl) Tryz.underlying175 (by kernel_rfl) (by kernel_rfl) ps
@[simp] theorem AX5(cs:List V):BH bj 177 cs=cs[0]?:=by kernel_rfl
@[simp] theorem AX6(cs:List V):BH bj 191 cs=cs[0]?:=by kernel_rfl
@[simp] theorem AX7(cs:List V):BH bj 193 cs=cs[0]?:=by kernel_rfl
@[simp] theorem A5C:BV bj 172=(some (none,206))/\bj.cellsOf 173=1/\A0 bj 175 0=some (43,0)/\A0 bj 175 1=some (172,12)/\A0 bj 175 2=some (173,13)/\bj.cellsOf 177=1/\B8 bj 177=some [(.raw .nilFunc)]/\bj.cellsOf 188=2/\A0 bj 188 0=some (3,0)/\A0 bj 188 1=some (3,1)/\BV bj 197=(some (none,204))/\DN bj 197=true:=by and_intros<;>kernel_rfl
@[simp] theorem AX8(cs:List V):BH bj 200 cs=cs[0]?:=by kernel_rfl
@[simp] theorem AX9(cs:List V):BH bj 203 cs=cs[0]?:=by kernel_rfl
@[simp] theorem AYA(cs:List V):BH bj 204 cs=cs[0]?:=by kernel_rfl
@[simp] theorem AYB(cs:List V):BH bj 206 cs=if 5<=cs.length then some (.agg (cs.take 5)) else none:=by kernel_rfl
@[simp] theorem AYC:bj.cellsOf 204=1/\bj.bytesOf 204=24/\B8 bj 204=some [.nil]/\YP bj 204=true/\BV bj 204=(some (none,209))/\DN bj 204=true/\bj.cellsOf 206=5/\bj.bytesOf 206=40/\B8 bj 206=some [.int .i64 0,.int .i64 0,.int .i64 0,.int .i64 0,.int .i64 0]/\YP bj 206=true/\BV bj 206=(some ((some 5),3))/\bj.cellsOf 207=2:=by and_intros<;>kernel_rfl
@[simp] theorem AYD(cs:List V):BH bj 207 cs=if 2<=cs.length then some (.agg (cs.take 2)) else none:=by kernel_rfl
@[simp] theorem AYE(ps:List (Nat×V)):CQ bj 207 ps=if (ps.all fun p=>BA p.2)=true then lP .agg (C4 (fun i=>[(0,1),(1,1)][i]?) [.int .i64 0,.int .i64 0] ps) else none:=EE (by kernel_rfl) Tryz.underlying207 (by kernel_rfl) (by kernel_rfl) ps
@[simp] theorem AYF(cs:List V):BH bj 209 cs=if 5<=cs.length then some (.agg (cs.take 5)) else none:=by kernel_rfl
@[simp] theorem AYG(cs:List V):BH bj 221 cs=cs[0]?:=by kernel_rfl
@[simp] theorem AYH(cs:List V):BH bj 225 cs=cs[0]?:=by kernel_rfl
@[simp] theorem AYI(cs:List V):BH bj 226 cs=cs[0]?:=by kernel_rfl
@[simp] theorem AYJ(cs:List V):BH bj 233 cs=cs[0]?:=by kernel_rfl
@[simp] theorem A5D:B8 bj 207=some [.int .i64 0,.int .i64 0]/\A0 bj 207 0=some (3,0)/\A0 bj 207 1=some (3,1)/\bj.cellsOf 209=5/\bj.bytesOf 209=40/\B8 bj 209=some [.int .i64 0,.int .i64 0,.int .i64 0,.int .i64 0,.int .i64 0]/\A0 bj 209 0=some (3,0)/\A0 bj 209 1=some (207,1)/\A0 bj 209 2=some (207,3)/\bj.cellsOf 233=1/\B8 bj 233=some [(.raw (.pointer none))]/\bj.cellsOf 236=1:=by and_intros<;>kernel_rfl
@[simp] theorem AYK(cs:List V):BH bj 236 cs=cs[0]?:=by kernel_rfl
@[simp] theorem AYL(ps:List (Nat×V)):CQ bj 238 ps=if (ps.all fun p=>BA p.2)=true then lP .agg (C4 (fun i=>[(0,1)][i]?) [(.raw .nilFunc)] ps) else none:=EE (by kernel_rfl) Tryz.underlying238 (by kernel_rfl) (by kernel_rfl) ps
@[simp] theorem AYM(ps:List (Nat×V)):CQ bj 250 ps=if (ps.all fun p=>BA p.2)=true then lP .agg (C4 (fun i=>[(0,9),(9,1),(10,1),(11,1)][i]?) [.int .i64 0,.int .i64 0,.int .i64 0,.int .i64 0,.nil,.nil,.nil,.nil,.nil,.nil,(.raw (.map none)),(.raw (.map none))] ps) else none:=EE (by kernel_rfl) Tryz.underlying250 (by kernel_rfl) (by kernel_rfl) ps
@[simp] theorem AYN:A0 bj 238 0=some (236,0)/\A0 bj 250 0=some (40,0)/\A0 bj 250 1=some (23,9):=by and_intros<;>kernel_rfl
end Go.Proofs.Tryz.Op
