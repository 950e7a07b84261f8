/- What the seat's types come to. No condition. -/
import Derived.Test.YtmnlpgjklibndaaGreatChecked
import Derived.Test.YtmnlpgjklibndaaGreatSx
open Go.Proofs.Tryz renaming prog->bj
namespace Go.Proofs.Tryz.Op
open Go Go.Pg
theorem EA{P:Program}{T:TypeId}{z:List V}{fs:Array Field}{tab:List (Nat×Nat)}(hz:BZ P T=some z)(hu:P.underlying T=some (.struct fs))(hi:(fs.all fun f=>(P.info? f.type).isSome)=true)(ht:fs.toList.map (fun f=>(f.offset,P.cellsOf f.type))=tab)(ps:List (Nat×V)) :
  CO P T ps=if (ps.all fun p=>A9 p.2)=true then hU .agg (CX (fun i=>tab[i]?) z ps) else none:=by
 have e:(fun i:Nat=>(fs[i]?).map fun (f:Field)=>(f.offset,P.cellsOf f.type))=fun i=>tab[i]?:=by funext i;rw[<-ht,List.getElem?_map];simp
 unfold CO
 rw[hz,hu]
 simp only[hi,and_true,e]
 cases CX (fun i=>tab[i]?) z ps<;>rfl
@[simp] theorem RM:bj.cellsOf 3=1:=by kernel_rfl
@[simp] theorem A7K(cs:List V):BJ bj 3 cs=cs[0]?:=by kernel_rfl
@[simp] theorem BCD(cs:List V)(o:Nat):M5 bj 3 cs o=cs[o]?:=by kernel_rfl
@[simp] theorem tL:bj.cellsOf 4=1:=by kernel_rfl
@[simp] theorem A7L(cs:List V):BJ bj 4 cs=cs[0]?:=by kernel_rfl
@[simp] theorem AB9:bj.cellsOf 22=1:=by kernel_rfl
@[simp] theorem A09(cs:List V):BJ bj 22 cs=cs[0]?:=by kernel_rfl
@[simp] theorem ACA:bj.cellsOf 23=1:=by kernel_rfl
@[simp] theorem A1A(cs:List V):BJ bj 23 cs=cs[0]?:=by kernel_rfl
@[simp] theorem iU:bj.cellsOf 25=5:=by kernel_rfl
@[simp] theorem A1B(cs:List V):BJ bj 25 cs=if 5<=cs.length then some (.agg (cs.take 5)) else none:=by kernel_rfl
@[simp] theorem A7M:bj.bytesOf 3=8/\BZ bj 3=some [.int .i64 0]/\aH bj 3=true/\BZ bj 4=some [.bool false]/\jF bj 4=true/\BK bj 22=(some (none,133))/\DW bj 22=true/\BK bj 23=(some (none,168))/\DW bj 23=true/\BE bj 25 0=some (3,0)/\BE bj 25 1=some (3,1)/\BE bj 25 2=some (3,2):=by and_intros<;>kernel_rfl
@[simp] theorem iV:bj.cellsOf 26=1:=by kernel_rfl
@[simp] theorem A1C(cs:List V):BJ bj 26 cs=cs[0]?:=by kernel_rfl
@[simp] theorem iW:bj.cellsOf 27=1:=by kernel_rfl
@[simp] theorem A1D(cs:List V):BJ bj 27 cs=cs[0]?:=by kernel_rfl
@[simp] theorem ACB:bj.cellsOf 29=8:=by kernel_rfl
@[simp] theorem A1E(cs:List V):BJ bj 29 cs=if 8<=cs.length then some (.agg (cs.take 8)) else none:=by kernel_rfl
@[simp] theorem A1F:BE bj 25 3=some (22,3)/\BE bj 25 4=some (23,4)/\BK bj 26=(some (none,27))/\DW bj 26=true/\bj.bytesOf 27=24/\BZ bj 27=some [.nil]/\aH bj 27=true/\BK bj 27=(some (none,54))/\DW bj 27=true/\BZ bj 29=some [.int .i64 0,.int .i64 0,.int .i64 0,.nil,.nil,.nil,.int .i64 0,.nil]/\BE bj 29 0=some (25,0)/\BE bj 29 1=some (26,5):=by and_intros<;>kernel_rfl
@[simp] theorem A1G(cs:List V):BJ bj 36 cs=cs[0]?:=by kernel_rfl
@[simp] theorem A1H(cs:List V):BJ bj 37 cs=cs[0]?:=by kernel_rfl
@[simp] theorem A1I:BE bj 29 2=some (3,6)/\BE bj 29 3=some (27,7)/\BK bj 32=(some (none,3))/\DW bj 32=true/\bj.cellsOf 36=1/\bj.bytesOf 36=24/\BZ bj 36=some [.nil]/\aH bj 36=true/\BK bj 36=(some (none,96))/\DW bj 36=true/\bj.cellsOf 37=1/\BK bj 37=(some (none,171)):=by and_intros<;>kernel_rfl
@[simp] theorem A1J(cs:List V):BJ bj 39 cs=if 5<=cs.length then some (.agg (cs.take 5)) else none:=by kernel_rfl
@[simp] theorem A1K(ps:List (Nat×V)):CO bj 39 ps=if (ps.all fun p=>A9 p.2)=true then hU .agg (CX (fun i=>[(0,1),(1,1),(2,1),(3,1),(4,1)][i]?) [.int .i64 0,.int .i64 0,.int .i64 0,.nil,.nil] ps) else none:=EA (by kernel_rfl) Tryz.underlying39 (by kernel_rfl) (by kernel_rfl) ps
@[simp] theorem A1L(cs:List V):BJ bj 40 cs=cs[0]?:=by kernel_rfl
@[simp] theorem BCE:DW bj 37=true/\bj.cellsOf 39=5/\BZ bj 39=some [.int .i64 0,.int .i64 0,.int .i64 0,.nil,.nil]/\BE bj 39 0=some (3,0)/\BE bj 39 1=some (3,1)/\BE bj 39 2=some (3,2)/\BE bj 39 3=some (36,3)/\BE bj 39 4=some (37,4)/\bj.cellsOf 40=1/\BK bj 40=(some (none,41))/\DW bj 40=true/\bj.cellsOf 41=1:=by and_intros<;>kernel_rfl
@[simp] theorem A1M(cs:List V):BJ bj 41 cs=cs[0]?:=by kernel_rfl
@[simp] theorem A1N(cs:List V):BJ bj 43 cs=if 8<=cs.length then some (.agg (cs.take 8)) else none:=by kernel_rfl
@[simp] theorem A1O(ps:List (Nat×V)):CO bj 43 ps=if (ps.all fun p=>A9 p.2)=true then hU .agg (CX (fun i=>[(0,5),(5,1),(6,1),(7,1)][i]?) [.int .i64 0,.int .i64 0,.int .i64 0,.nil,.nil,.nil,.int .i64 0,.nil] ps) else none:=EA (by kernel_rfl) Tryz.underlying43 (by kernel_rfl) (by kernel_rfl) ps
@[simp] theorem iX:bj.cellsOf 54=4:=by kernel_rfl
@[simp] theorem A1P:bj.bytesOf 41=24/\BZ bj 41=some [.nil]/\aH bj 41=true/\BK bj 41=(some (none,98))/\DW bj 41=true/\bj.cellsOf 43=8/\BZ bj 43=some [.int .i64 0,.int .i64 0,.int .i64 0,.nil,.nil,.nil,.int .i64 0,.nil]/\BE bj 43 0=some (39,0)/\BE bj 43 1=some (40,5)/\BE bj 43 2=some (3,6)/\BE bj 43 3=some (41,7)/\bj.bytesOf 54=32:=by and_intros<;>kernel_rfl
@[simp] theorem A1Q(cs:List V):BJ bj 54 cs=if 4<=cs.length then some (.agg (cs.take 4)) else none:=by kernel_rfl
@[simp] theorem iY:bj.cellsOf 96=3:=by kernel_rfl
@[simp] theorem A1R(cs:List V):BJ bj 96 cs=if 3<=cs.length then some (.agg (cs.take 3)) else none:=by kernel_rfl
@[simp] theorem A7N:BZ bj 54=some [.int .i64 0,.bool false,.int .i64 0,.bool false]/\aH bj 54=true/\BE bj 54 0=some (3,0)/\BE bj 54 1=some (4,1)/\BE bj 54 2=some (3,2)/\BE bj 54 3=some (4,3)/\bj.bytesOf 96=24/\BZ bj 96=some [.int .i64 0,.int .i64 0,.int .i64 0]/\aH bj 96=true/\BE bj 96 0=some (3,0)/\BE bj 96 1=some (3,1)/\BE bj 96 2=some (3,2):=by and_intros<;>kernel_rfl
@[simp] theorem A1S(ps:List (Nat×V)):CO bj 96 ps=if (ps.all fun p=>A9 p.2)=true then hU .agg (CX (fun i=>[(0,1),(1,1),(2,1)][i]?) [.int .i64 0,.int .i64 0,.int .i64 0] ps) else none:=EA (by kernel_rfl) Tryz.underlying96 (by kernel_rfl) (by kernel_rfl) ps
@[simp] theorem iZ:bj.cellsOf 98=4:=by kernel_rfl
@[simp] theorem A1T(cs:List V):BJ bj 98 cs=if 4<=cs.length then some (.agg (cs.take 4)) else none:=by kernel_rfl
@[simp] theorem A1U(ps:List (Nat×V)):CO bj 98 ps=if (ps.all fun p=>A9 p.2)=true then hU .agg (CX (fun i=>[(0,1),(1,1),(2,1),(3,1)][i]?) [.int .i64 0,.bool false,.int .i64 0,.bool false] ps) else none:=EA (by kernel_rfl) Tryz.underlying98 (by kernel_rfl) (by kernel_rfl) ps
@[simp] theorem ATV(cs:List V):BJ bj 104 cs=cs[0]?:=by kernel_rfl
@[simp] theorem ATW(cs:List V):BJ bj 108 cs=cs[0]?:=by kernel_rfl
@[simp] theorem A1V:bj.bytesOf 98=32/\BZ bj 98=some [.int .i64 0,.bool false,.int .i64 0,.bool false]/\aH bj 98=true/\BE bj 98 0=some (3,0)/\BE bj 98 1=some (4,1)/\BE bj 98 2=some (3,2)/\BE bj 98 3=some (4,3)/\bj.cellsOf 104=1/\BZ bj 104=some [(.raw (.pointer none))]/\bj.cellsOf 108=1/\BK bj 108=(some (none,114))/\DW bj 108=true:=by and_intros<;>kernel_rfl
@[simp] theorem ATX(ps:List (Nat×V)):CO bj 110 ps=if (ps.all fun p=>A9 p.2)=true then hU .agg (CX (fun i=>[(0,8),(8,1)][i]?) [.int .i64 0,.int .i64 0,.int .i64 0,.nil,.nil,.nil,.int .i64 0,.nil,.nil] ps) else none:=EA (by kernel_rfl) Tryz.underlying110 (by kernel_rfl) (by kernel_rfl) ps
@[simp] theorem ATY(cs:List V):BJ bj 112 cs=cs[0]?:=by kernel_rfl
@[simp] theorem ATZ(cs:List V):BJ bj 113 cs=cs[0]?:=by kernel_rfl
@[simp] theorem AT0(cs:List V):BJ bj 114 cs=cs[0]?:=by kernel_rfl
@[simp] theorem AT1(ps:List (Nat×V)):CO bj 116 ps=if (ps.all fun p=>A9 p.2)=true then hU .agg (CX (fun i=>[(0,1)][i]?) [(.raw .nilFunc)] ps) else none:=EA (by kernel_rfl) Tryz.underlying116 (by kernel_rfl) (by kernel_rfl) ps
@[simp] theorem AT2(cs:List V):BJ bj 126 cs=cs[0]?:=by kernel_rfl
@[simp] theorem AT3(cs:List V):BJ bj 127 cs=cs[0]?:=by kernel_rfl
@[simp] theorem AT4:BE bj 110 1=some (108,8)/\bj.cellsOf 112=1/\bj.cellsOf 114=1/\bj.bytesOf 114=8/\BZ bj 114=some [(.raw (.pointer none))]/\aH bj 114=true/\BE bj 116 0=some (112,0)/\bj.cellsOf 126=1/\BZ bj 126=some [(.raw .nilFunc)]/\bj.cellsOf 127=1/\BZ bj 127=some [(.raw .nilFunc)]/\bj.cellsOf 128=1:=by and_intros<;>kernel_rfl
@[simp] theorem AT5(cs:List V):BJ bj 128 cs=cs[0]?:=by kernel_rfl
@[simp] theorem AT6(ps:List (Nat×V)):CO bj 130 ps=if (ps.all fun p=>A9 p.2)=true then hU .agg (CX (fun i=>[(0,1),(1,1)][i]?) [.nil,(.raw (.map none))] ps) else none:=EA (by kernel_rfl) Tryz.underlying130 (by kernel_rfl) (by kernel_rfl) ps
@[simp] theorem wK:bj.cellsOf 133=3:=by kernel_rfl
@[simp] theorem AT7(cs:List V):BJ bj 133 cs=if 3<=cs.length then some (.agg (cs.take 3)) else none:=by kernel_rfl
@[simp] theorem AT8(ps:List (Nat×V)):CO bj 133 ps=if (ps.all fun p=>A9 p.2)=true then hU .agg (CX (fun i=>[(0,1),(1,1),(2,1)][i]?) [.int .i64 0,.int .i64 0,.int .i64 0] ps) else none:=EA (by kernel_rfl) Tryz.underlying133 (by kernel_rfl) (by kernel_rfl) ps
@[simp] theorem AT9(cs:List V):BJ bj 138 cs=cs[0]?:=by kernel_rfl
@[simp] theorem AUA(cs:List V):BJ bj 151 cs=if 2<=cs.length then some (.agg (cs.take 2)) else none:=by kernel_rfl
@[simp] theorem AUB:BE bj 130 0=some (36,0)/\BE bj 130 1=some (128,1)/\bj.bytesOf 133=24/\BZ bj 133=some [.int .i64 0,.int .i64 0,.int .i64 0]/\aH bj 133=true/\BE bj 133 0=some (3,0)/\BE bj 133 1=some (3,1)/\BE bj 133 2=some (3,2)/\bj.cellsOf 138=1/\bj.cellsOf 151=2/\BZ bj 151=some [.int .i64 0,.int .i64 0]/\BE bj 151 0=some (3,0):=by and_intros<;>kernel_rfl
@[simp] theorem AUC(ps:List (Nat×V)):CO bj 151 ps=if (ps.all fun p=>A9 p.2)=true then hU .agg (CX (fun i=>[(0,1),(1,1)][i]?) [.int .i64 0,.int .i64 0] ps) else none:=EA (by kernel_rfl) Tryz.underlying151 (by kernel_rfl) (by kernel_rfl) ps
@[simp] theorem bI:bj.cellsOf 160=4:=by kernel_rfl
@[simp] theorem AUD(cs:List V):BJ bj 160 cs=if 4<=cs.length then some (.agg (cs.take 4)) else none:=by kernel_rfl
@[simp] theorem AUE(cs:List V):BJ bj 162 cs=if 10<=cs.length then some (.agg (cs.take 10)) else none:=by kernel_rfl
@[simp] theorem AUF(ps:List (Nat×V)):CO bj 162 ps=if (ps.all fun p=>A9 p.2)=true then hU .agg (CX (fun i=>[(0,4),(4,4),(8,1),(9,1)][i]?) [.int .i64 0,.int .i64 0,.int .i64 0,.int .i64 0,.int .i64 0,.int .i64 0,.int .i64 0,.int .i64 0,.int .i64 0,.int .i64 0] ps) else none:=EA (by kernel_rfl) Tryz.underlying162 (by kernel_rfl) (by kernel_rfl) ps
@[simp] theorem bJ:bj.cellsOf 166=2:=by kernel_rfl
@[simp] theorem AUG(cs:List V):BJ bj 166 cs=if 2<=cs.length then some (.agg (cs.take 2)) else none:=by kernel_rfl
@[simp] theorem AUH:BE bj 151 1=some (3,1)/\BZ bj 160=some [.int .i64 0,.int .i64 0,.int .i64 0,.int .i64 0]/\BK bj 160=(some ((some 4),3))/\bj.cellsOf 162=10/\bj.bytesOf 162=80/\BZ bj 162=some [.int .i64 0,.int .i64 0,.int .i64 0,.int .i64 0,.int .i64 0,.int .i64 0,.int .i64 0,.int .i64 0,.int .i64 0,.int .i64 0]/\aH bj 162=true/\BE bj 162 0=some (160,0)/\BE bj 162 1=some (160,4)/\BE bj 162 2=some (3,8)/\BE bj 162 3=some (3,9)/\BE bj 166 0=some (3,0):=by and_intros<;>kernel_rfl
@[simp] theorem wL:bj.cellsOf 168=3:=by kernel_rfl
@[simp] theorem AUI(cs:List V):BJ bj 168 cs=if 3<=cs.length then some (.agg (cs.take 3)) else none:=by kernel_rfl
@[simp] theorem AUJ(cs:List V):BJ bj 171 cs=if 3<=cs.length then some (.agg (cs.take 3)) else none:=by kernel_rfl
@[simp] theorem AUK(ps:List (Nat×V)):CO bj 171 ps=if (ps.all fun p=>A9 p.2)=true then hU .agg (CX (fun i=>[(0,1),(1,2)][i]?) [.int .i64 0,.int .i64 0,.int .i64 0] ps) else none:=EA (by kernel_rfl) Tryz.underlying171 (by kernel_rfl) (by kernel_rfl) ps
@[simp] theorem AUL:BE bj 166 1=some (3,1)/\BZ bj 168=some [.int .i64 0,.int .i64 0,.int .i64 0]/\BE bj 168 0=some (3,0)/\BE bj 168 1=some (166,1)/\bj.cellsOf 171=3/\bj.bytesOf 171=24/\BZ bj 171=some [.int .i64 0,.int .i64 0,.int .i64 0]/\aH bj 171=true/\BE bj 171 0=some (3,0)/\BE bj 171 1=some (151,1)/\bj.cellsOf 173=1/\BZ bj 173=some [.nil]:=by and_intros<;>kernel_rfl
@[simp] theorem AUM(cs:List V):BJ bj 173 cs=cs[0]?:=by kernel_rfl
@[simp] theorem AUN(cs:List V):BJ bj 188 cs=cs[0]?:=by kernel_rfl
@[simp] theorem AUO(cs:List V):BJ bj 193 cs=cs[0]?:=by kernel_rfl
@[simp] theorem AUP(cs:List V):BJ bj 195 cs=cs[0]?:=by kernel_rfl
@[simp] theorem AUQ(cs:List V):BJ bj 198 cs=cs[0]?:=by kernel_rfl
@[simp] theorem AUR(cs:List V):BJ bj 216 cs=cs[0]?:=by kernel_rfl
@[simp] theorem AUS(cs:List V):BJ bj 220 cs=cs[0]?:=by kernel_rfl
@[simp] theorem A1W:BK bj 173=(some (none,36))/\DW bj 173=true/\bj.cellsOf 188=1/\bj.cellsOf 193=1/\BZ bj 193=some [.nil]/\BK bj 193=(some (none,162))/\DW bj 193=true/\bj.cellsOf 195=1/\BZ bj 195=some [(.raw (.map none))]/\bj.cellsOf 220=1/\BE bj 222 0=some (39,0)/\BE bj 222 1=some (220,5):=by and_intros<;>kernel_rfl
@[simp] theorem AUT(ps:List (Nat×V)):CO bj 222 ps=if (ps.all fun p=>A9 p.2)=true then hU .agg (CX (fun i=>[(0,5),(5,1)][i]?) [.int .i64 0,.int .i64 0,.int .i64 0,.nil,.nil,(.raw (.map none))] ps) else none:=EA (by kernel_rfl) Tryz.underlying222 (by kernel_rfl) (by kernel_rfl) ps
@[simp] theorem AUU(cs:List V):BJ bj 224 cs=cs[0]?:=by kernel_rfl
@[simp] theorem bK:bj.cellsOf 239=9:=by kernel_rfl
@[simp] theorem AUV(cs:List V):BJ bj 239 cs=if 9<=cs.length then some (.agg (cs.take 9)) else none:=by kernel_rfl
@[simp] theorem AUW(ps:List (Nat×V)):CO bj 239 ps=if (ps.all fun p=>A9 p.2)=true then hU .agg (CX (fun i=>[(0,1),(1,4),(5,4)][i]?) [.int .i64 0,.int .i64 0,.int .i64 0,.int .i64 0,.int .i64 0,.int .i64 0,.int .i64 0,.int .i64 0,.int .i64 0] ps) else none:=EA (by kernel_rfl) Tryz.underlying239 (by kernel_rfl) (by kernel_rfl) ps
@[simp] theorem A1X:BZ bj 239=some [.int .i64 0,.int .i64 0,.int .i64 0,.int .i64 0,.int .i64 0,.int .i64 0,.int .i64 0,.int .i64 0,.int .i64 0]:=by kernel_rfl
end Go.Proofs.Tryz.Op
