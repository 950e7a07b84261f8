/- What the seat's types come to. No condition. -/
import Derived.Test.YtmnlpgjklibndaaGreatChecked
import Derived.Test.YtmnlpgjklibndaaGreatSx
open Go.Proofs.Tryz renaming prog->bj
namespace Go.Proofs.Tryz.Op
open Go Go.Pg
theorem EI{P:Program}{T:TypeId}{z:List V}{fs:Array Field}{tab:List (Nat×Nat)}(hz:B8 P T=some z)(hu:P.underlying T=some (.struct fs))(hi:(fs.all fun f=>(P.info? f.type).isSome)=true)(ht:fs.toList.map (fun f=>(f.offset,P.cellsOf f.type))=tab)(ps:List (Nat×V)) :
  CP P T ps=if (ps.all fun p=>BD p.2)=true then kE .agg (C4 (fun i=>tab[i]?) z ps) else none:=by
 have e:(fun i:Nat=>(fs[i]?).map fun (f:Field)=>(f.offset,P.cellsOf f.type))=fun i=>tab[i]?:=by funext i;rw[<-ht,List.getElem?_map];simp
 unfold CP
 rw[hz,hu]
 simp only[hi,and_true,e]
 cases C4 (fun i=>tab[i]?) z ps<;>rfl
@[simp] theorem R4:bj.cellsOf 3=1:=by kernel_rfl
@[simp] theorem BA8(cs:List V):BT bj 3 cs=cs[0]?:=by kernel_rfl
@[simp] theorem BF2(cs:List V)(o:Nat):NN bj 3 cs o=cs[o]?:=by kernel_rfl
@[simp] theorem wD:bj.cellsOf 4=1:=by kernel_rfl
@[simp] theorem BA9(cs:List V):BT bj 4 cs=cs[0]?:=by kernel_rfl
@[simp] theorem AEA:bj.cellsOf 22=1:=by kernel_rfl
@[simp] theorem A4H(cs:List V):BT bj 22 cs=cs[0]?:=by kernel_rfl
@[simp] theorem AEB:bj.cellsOf 23=1:=by kernel_rfl
@[simp] theorem A4I(cs:List V):BT bj 23 cs=cs[0]?:=by kernel_rfl
@[simp] theorem BBA:bj.bytesOf 3=8/\B8 bj 3=some [.int .i64 0]/\cB bj 3=true/\B8 bj 4=some [.bool false]/\lN bj 4=true/\bj.bytesOf 22=24/\B8 bj 22=some [.nil]/\cB bj 22=true/\BR bj 22=(some (none,133))/\DQ bj 22=true/\BR bj 23=(some (none,168))/\DQ bj 23=true:=by and_intros<;>kernel_rfl
@[simp] theorem lF:bj.cellsOf 25=5:=by kernel_rfl
@[simp] theorem A4J(cs:List V):BT bj 25 cs=if 5<=cs.length then some (.agg (cs.take 5)) else none:=by kernel_rfl
@[simp] theorem AEC:bj.cellsOf 26=1:=by kernel_rfl
@[simp] theorem A4K(cs:List V):BT bj 26 cs=cs[0]?:=by kernel_rfl
@[simp] theorem AED:bj.cellsOf 27=1:=by kernel_rfl
@[simp] theorem A4L(cs:List V):BT bj 27 cs=cs[0]?:=by kernel_rfl
@[simp] theorem AEE:bj.cellsOf 29=8:=by kernel_rfl
@[simp] theorem A4M(cs:List V):BT bj 29 cs=if 8<=cs.length then some (.agg (cs.take 8)) else none:=by kernel_rfl
@[simp] theorem A4N:BL bj 25 0=some (3,0)/\BL bj 25 1=some (3,1)/\BL bj 25 2=some (3,2)/\BL bj 25 3=some (22,3)/\BL bj 25 4=some (23,4)/\BR bj 26=(some (none,27))/\DQ bj 26=true/\BR bj 27=(some (none,54))/\DQ bj 27=true/\B8 bj 29=some [.int .i64 0,.int .i64 0,.int .i64 0,.nil,.nil,.nil,.int .i64 0,.nil]/\BL bj 29 0=some (25,0)/\BL bj 29 1=some (26,5):=by and_intros<;>kernel_rfl
@[simp] theorem A4O(cs:List V):BT bj 36 cs=cs[0]?:=by kernel_rfl
@[simp] theorem A4P(cs:List V):BT bj 37 cs=cs[0]?:=by kernel_rfl
@[simp] theorem A4Q:BL bj 29 2=some (3,6)/\BL bj 29 3=some (27,7)/\BR bj 32=(some (none,3))/\DQ bj 32=true/\bj.cellsOf 36=1/\bj.bytesOf 36=24/\B8 bj 36=some [.nil]/\cB bj 36=true/\BR bj 36=(some (none,96))/\DQ bj 36=true/\bj.cellsOf 37=1/\BR bj 37=(some (none,171)):=by and_intros<;>kernel_rfl
@[simp] theorem A4R(cs:List V):BT bj 39 cs=if 5<=cs.length then some (.agg (cs.take 5)) else none:=by kernel_rfl
@[simp] theorem A4S(ps:List (Nat×V)):CP bj 39 ps=if (ps.all fun p=>BD p.2)=true then kE .agg (C4 (fun i=>[(0,1),(1,1),(2,1),(3,1),(4,1)][i]?) [.int .i64 0,.int .i64 0,.int .i64 0,.nil,.nil] ps) else none:=EI (by kernel_rfl) Tryz.underlying39 (by kernel_rfl) (by kernel_rfl) ps
@[simp] theorem A4T(cs:List V):BT bj 40 cs=cs[0]?:=by kernel_rfl
@[simp] theorem BF3:DQ bj 37=true/\bj.cellsOf 39=5/\B8 bj 39=some [.int .i64 0,.int .i64 0,.int .i64 0,.nil,.nil]/\BL bj 39 0=some (3,0)/\BL bj 39 1=some (3,1)/\BL bj 39 2=some (3,2)/\BL bj 39 3=some (36,3)/\BL bj 39 4=some (37,4)/\bj.cellsOf 40=1/\BR bj 40=(some (none,41))/\DQ bj 40=true/\bj.cellsOf 41=1:=by and_intros<;>kernel_rfl
@[simp] theorem A4U(cs:List V):BT bj 41 cs=cs[0]?:=by kernel_rfl
@[simp] theorem A4V(cs:List V):BT bj 43 cs=if 8<=cs.length then some (.agg (cs.take 8)) else none:=by kernel_rfl
@[simp] theorem A4W(ps:List (Nat×V)):CP bj 43 ps=if (ps.all fun p=>BD p.2)=true then kE .agg (C4 (fun i=>[(0,5),(5,1),(6,1),(7,1)][i]?) [.int .i64 0,.int .i64 0,.int .i64 0,.nil,.nil,.nil,.int .i64 0,.nil] ps) else none:=EI (by kernel_rfl) Tryz.underlying43 (by kernel_rfl) (by kernel_rfl) ps
@[simp] theorem A4X:bj.bytesOf 41=24/\B8 bj 41=some [.nil]/\cB bj 41=true/\BR bj 41=(some (none,98))/\DQ bj 41=true/\bj.cellsOf 43=8/\B8 bj 43=some [.int .i64 0,.int .i64 0,.int .i64 0,.nil,.nil,.nil,.int .i64 0,.nil]/\BL bj 43 0=some (39,0)/\BL bj 43 1=some (40,5)/\BL bj 43 2=some (3,6)/\BL bj 43 3=some (41,7)/\BR bj 49=(some (none,22)):=by and_intros<;>kernel_rfl
@[simp] theorem AEF:bj.cellsOf 54=4:=by kernel_rfl
@[simp] theorem A4Y(cs:List V):BT bj 54 cs=if 4<=cs.length then some (.agg (cs.take 4)) else none:=by kernel_rfl
@[simp] theorem lG:bj.cellsOf 96=3:=by kernel_rfl
@[simp] theorem A4Z(cs:List V):BT bj 96 cs=if 3<=cs.length then some (.agg (cs.take 3)) else none:=by kernel_rfl
@[simp] theorem BF4:DQ bj 49=true/\bj.bytesOf 54=32/\B8 bj 54=some [.int .i64 0,.bool false,.int .i64 0,.bool false]/\cB bj 54=true/\BL bj 54 0=some (3,0)/\BL bj 54 1=some (4,1)/\BL bj 54 2=some (3,2)/\BL bj 54 3=some (4,3)/\bj.bytesOf 96=24/\B8 bj 96=some [.int .i64 0,.int .i64 0,.int .i64 0]/\cB bj 96=true/\BL bj 96 0=some (3,0):=by and_intros<;>kernel_rfl
@[simp] theorem A40(ps:List (Nat×V)):CP bj 96 ps=if (ps.all fun p=>BD p.2)=true then kE .agg (C4 (fun i=>[(0,1),(1,1),(2,1)][i]?) [.int .i64 0,.int .i64 0,.int .i64 0] ps) else none:=EI (by kernel_rfl) Tryz.underlying96 (by kernel_rfl) (by kernel_rfl) ps
@[simp] theorem lH:bj.cellsOf 98=4:=by kernel_rfl
@[simp] theorem A41(cs:List V):BT bj 98 cs=if 4<=cs.length then some (.agg (cs.take 4)) else none:=by kernel_rfl
@[simp] theorem A42(ps:List (Nat×V)):CP bj 98 ps=if (ps.all fun p=>BD p.2)=true then kE .agg (C4 (fun i=>[(0,1),(1,1),(2,1),(3,1)][i]?) [.int .i64 0,.bool false,.int .i64 0,.bool false] ps) else none:=EI (by kernel_rfl) Tryz.underlying98 (by kernel_rfl) (by kernel_rfl) ps
@[simp] theorem AW0(cs:List V):BT bj 104 cs=cs[0]?:=by kernel_rfl
@[simp] theorem A43:BL bj 96 1=some (3,1)/\BL bj 96 2=some (3,2)/\bj.bytesOf 98=32/\B8 bj 98=some [.int .i64 0,.bool false,.int .i64 0,.bool false]/\cB bj 98=true/\BL bj 98 0=some (3,0)/\BL bj 98 1=some (4,1)/\BL bj 98 2=some (3,2)/\BL bj 98 3=some (4,3)/\bj.cellsOf 104=1/\B8 bj 104=some [(.raw (.pointer none))]/\bj.cellsOf 108=1:=by and_intros<;>kernel_rfl
@[simp] theorem AW1(cs:List V):BT bj 108 cs=cs[0]?:=by kernel_rfl
@[simp] theorem AW2(ps:List (Nat×V)):CP bj 110 ps=if (ps.all fun p=>BD p.2)=true then kE .agg (C4 (fun i=>[(0,8),(8,1)][i]?) [.int .i64 0,.int .i64 0,.int .i64 0,.nil,.nil,.nil,.int .i64 0,.nil,.nil] ps) else none:=EI (by kernel_rfl) Tryz.underlying110 (by kernel_rfl) (by kernel_rfl) ps
@[simp] theorem AW3(cs:List V):BT bj 112 cs=cs[0]?:=by kernel_rfl
@[simp] theorem AW4(cs:List V):BT bj 113 cs=cs[0]?:=by kernel_rfl
@[simp] theorem AW5(cs:List V):BT bj 114 cs=cs[0]?:=by kernel_rfl
@[simp] theorem AW6(ps:List (Nat×V)):CP bj 116 ps=if (ps.all fun p=>BD p.2)=true then kE .agg (C4 (fun i=>[(0,1)][i]?) [(.raw .nilFunc)] ps) else none:=EI (by kernel_rfl) Tryz.underlying116 (by kernel_rfl) (by kernel_rfl) ps
@[simp] theorem AW7(cs:List V):BT bj 126 cs=cs[0]?:=by kernel_rfl
@[simp] theorem A44:BR bj 108=(some (none,114))/\DQ bj 108=true/\BL bj 110 1=some (108,8)/\bj.cellsOf 112=1/\bj.cellsOf 114=1/\bj.bytesOf 114=8/\B8 bj 114=some [(.raw (.pointer none))]/\cB bj 114=true/\BL bj 116 0=some (112,0)/\bj.cellsOf 126=1/\B8 bj 126=some [(.raw .nilFunc)]/\bj.cellsOf 127=1:=by and_intros<;>kernel_rfl
@[simp] theorem AW8(cs:List V):BT bj 127 cs=cs[0]?:=by kernel_rfl
@[simp] theorem AW9(cs:List V):BT bj 128 cs=cs[0]?:=by kernel_rfl
@[simp] theorem AXA(ps:List (Nat×V)):CP bj 130 ps=if (ps.all fun p=>BD p.2)=true then kE .agg (C4 (fun i=>[(0,1),(1,1)][i]?) [.nil,(.raw (.map none))] ps) else none:=EI (by kernel_rfl) Tryz.underlying130 (by kernel_rfl) (by kernel_rfl) ps
@[simp] theorem yS:bj.cellsOf 133=3:=by kernel_rfl
@[simp] theorem AXB(cs:List V):BT bj 133 cs=if 3<=cs.length then some (.agg (cs.take 3)) else none:=by kernel_rfl
@[simp] theorem AXC(ps:List (Nat×V)):CP bj 133 ps=if (ps.all fun p=>BD p.2)=true then kE .agg (C4 (fun i=>[(0,1),(1,1),(2,1)][i]?) [.int .i64 0,.int .i64 0,.int .i64 0] ps) else none:=EI (by kernel_rfl) Tryz.underlying133 (by kernel_rfl) (by kernel_rfl) ps
@[simp] theorem AXD(cs:List V):BT bj 138 cs=cs[0]?:=by kernel_rfl
@[simp] theorem A45:B8 bj 127=some [(.raw .nilFunc)]/\bj.cellsOf 128=1/\BL bj 130 0=some (36,0)/\BL bj 130 1=some (128,1)/\bj.bytesOf 133=24/\B8 bj 133=some [.int .i64 0,.int .i64 0,.int .i64 0]/\cB bj 133=true/\BL bj 133 0=some (3,0)/\BL bj 133 1=some (3,1)/\BL bj 133 2=some (3,2)/\bj.cellsOf 138=1/\bj.cellsOf 151=2:=by and_intros<;>kernel_rfl
@[simp] theorem AXE(cs:List V):BT bj 151 cs=if 2<=cs.length then some (.agg (cs.take 2)) else none:=by kernel_rfl
@[simp] theorem AXF(ps:List (Nat×V)):CP bj 151 ps=if (ps.all fun p=>BD p.2)=true then kE .agg (C4 (fun i=>[(0,1),(1,1)][i]?) [.int .i64 0,.int .i64 0] ps) else none:=EI (by kernel_rfl) Tryz.underlying151 (by kernel_rfl) (by kernel_rfl) ps
@[simp] theorem dG:bj.cellsOf 160=4:=by kernel_rfl
@[simp] theorem AXG(cs:List V):BT bj 160 cs=if 4<=cs.length then some (.agg (cs.take 4)) else none:=by kernel_rfl
@[simp] theorem AXH(cs:List V):BT bj 162 cs=if 10<=cs.length then some (.agg (cs.take 10)) else none:=by kernel_rfl
@[simp] theorem A46:B8 bj 151=some [.int .i64 0,.int .i64 0]/\BL bj 151 0=some (3,0)/\BL bj 151 1=some (3,1)/\B8 bj 160=some [.int .i64 0,.int .i64 0,.int .i64 0,.int .i64 0]/\BR bj 160=(some ((some 4),3))/\bj.cellsOf 162=10/\bj.bytesOf 162=80/\B8 bj 162=some [.int .i64 0,.int .i64 0,.int .i64 0,.int .i64 0,.int .i64 0,.int .i64 0,.int .i64 0,.int .i64 0,.int .i64 0,.int .i64 0]/\cB bj 162=true/\BL bj 162 0=some (160,0)/\BL bj 162 1=some (160,4)/\BL bj 162 2=some (3,8):=by and_intros<;>kernel_rfl
@[simp] theorem AXI(ps:List (Nat×V)):CP bj 162 ps=if (ps.all fun p=>BD p.2)=true then kE .agg (C4 (fun i=>[(0,4),(4,4),(8,1),(9,1)][i]?) [.int .i64 0,.int .i64 0,.int .i64 0,.int .i64 0,.int .i64 0,.int .i64 0,.int .i64 0,.int .i64 0,.int .i64 0,.int .i64 0] ps) else none:=EI (by kernel_rfl) Tryz.underlying162 (by kernel_rfl) (by kernel_rfl) ps
@[simp] theorem dH:bj.cellsOf 166=2:=by kernel_rfl
@[simp] theorem AXJ(cs:List V):BT bj 166 cs=if 2<=cs.length then some (.agg (cs.take 2)) else none:=by kernel_rfl
@[simp] theorem yT:bj.cellsOf 168=3:=by kernel_rfl
@[simp] theorem AXK(cs:List V):BT bj 168 cs=if 3<=cs.length then some (.agg (cs.take 3)) else none:=by kernel_rfl
@[simp] theorem AXL(cs:List V):BT bj 171 cs=if 3<=cs.length then some (.agg (cs.take 3)) else none:=by kernel_rfl
@[simp] theorem AXM:BL bj 162 3=some (3,9)/\BL bj 166 0=some (3,0)/\BL bj 166 1=some (3,1)/\B8 bj 168=some [.int .i64 0,.int .i64 0,.int .i64 0]/\BL bj 168 0=some (3,0)/\BL bj 168 1=some (166,1)/\bj.cellsOf 171=3/\bj.bytesOf 171=24/\B8 bj 171=some [.int .i64 0,.int .i64 0,.int .i64 0]/\cB bj 171=true/\BL bj 171 0=some (3,0)/\BL bj 171 1=some (151,1):=by and_intros<;>kernel_rfl
@[simp] theorem AXN(ps:List (Nat×V)):CP bj 171 ps=if (ps.all fun p=>BD p.2)=true then kE .agg (C4 (fun i=>[(0,1),(1,2)][i]?) [.int .i64 0,.int .i64 0,.int .i64 0] ps) else none:=EI (by kernel_rfl) Tryz.underlying171 (by kernel_rfl) (by kernel_rfl) ps
@[simp] theorem AXO(cs:List V):BT bj 173 cs=cs[0]?:=by kernel_rfl
@[simp] theorem AXP(cs:List V):BT bj 188 cs=cs[0]?:=by kernel_rfl
@[simp] theorem AXQ(cs:List V):BT bj 193 cs=cs[0]?:=by kernel_rfl
@[simp] theorem AXR(cs:List V):BT bj 195 cs=cs[0]?:=by kernel_rfl
@[simp] theorem AXS(cs:List V):BT bj 198 cs=cs[0]?:=by kernel_rfl
@[simp] theorem AXT(cs:List V):BT bj 216 cs=cs[0]?:=by kernel_rfl
@[simp] theorem AXU:bj.cellsOf 173=1/\B8 bj 173=some [.nil]/\BR bj 173=(some (none,36))/\DQ bj 173=true/\bj.cellsOf 188=1/\bj.cellsOf 193=1/\B8 bj 193=some [.nil]/\BR bj 193=(some (none,162))/\DQ bj 193=true/\bj.cellsOf 195=1/\B8 bj 195=some [(.raw (.map none))]/\bj.cellsOf 220=1:=by and_intros<;>kernel_rfl
@[simp] theorem AXV(cs:List V):BT bj 220 cs=cs[0]?:=by kernel_rfl
@[simp] theorem AXW(ps:List (Nat×V)):CP bj 222 ps=if (ps.all fun p=>BD p.2)=true then kE .agg (C4 (fun i=>[(0,5),(5,1)][i]?) [.int .i64 0,.int .i64 0,.int .i64 0,.nil,.nil,(.raw (.map none))] ps) else none:=EI (by kernel_rfl) Tryz.underlying222 (by kernel_rfl) (by kernel_rfl) ps
@[simp] theorem AXX(cs:List V):BT bj 224 cs=cs[0]?:=by kernel_rfl
@[simp] theorem dI:bj.cellsOf 239=9:=by kernel_rfl
@[simp] theorem AXY(cs:List V):BT bj 239 cs=if 9<=cs.length then some (.agg (cs.take 9)) else none:=by kernel_rfl
@[simp] theorem AXZ(ps:List (Nat×V)):CP bj 239 ps=if (ps.all fun p=>BD p.2)=true then kE .agg (C4 (fun i=>[(0,1),(1,4),(5,4)][i]?) [.int .i64 0,.int .i64 0,.int .i64 0,.int .i64 0,.int .i64 0,.int .i64 0,.int .i64 0,.int .i64 0,.int .i64 0] ps) else none:=EI (by kernel_rfl) Tryz.underlying239 (by kernel_rfl) (by kernel_rfl) ps
@[simp] theorem AX0:BL bj 222 0=some (39,0)/\BL bj 222 1=some (220,5)/\B8 bj 239=some [.int .i64 0,.int .i64 0,.int .i64 0,.int .i64 0,.int .i64 0,.int .i64 0,.int .i64 0,.int .i64 0,.int .i64 0]:=by and_intros<;>kernel_rfl
end Go.Proofs.Tryz.Op
