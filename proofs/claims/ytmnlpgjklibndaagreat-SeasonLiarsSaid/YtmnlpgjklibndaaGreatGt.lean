/- What the seat's types come to. No condition. -/
import Derived.Test.YtmnlpgjklibndaaGreatChecked
import Derived.Test.YtmnlpgjklibndaaGreatSx
open Go.Proofs.Tryz renaming prog->bj
namespace Go.Proofs.Tryz.Op
open Go Go.Pg
theorem DY{P:Program}{T:TypeId}{z:List V}{fs:Array Field}{tab:List (Nat×Nat)}(hz:BZ P T=some z)(hu:P.underlying T=some (.struct fs))(hi:(fs.all fun f=>(P.info? f.type).isSome)=true)(ht:fs.toList.map (fun f=>(f.offset,P.cellsOf f.type))=tab)(ps:List (Nat×V)) :
  CI P T ps=if (ps.all fun p=>A9 p.2)=true then fU .agg (CR (fun i=>tab[i]?) z ps) else none:=by
 have e:(fun i:Nat=>(fs[i]?).map fun (f:Field)=>(f.offset,P.cellsOf f.type))=fun i=>tab[i]?:=by funext i;rw[<-ht,List.getElem?_map];simp
 unfold CI
 rw[hz,hu]
 simp only[hi,and_true,e]
 cases CR (fun i=>tab[i]?) z ps<;>rfl
@[simp] theorem QU:bj.cellsOf 3=1:=by kernel_rfl
@[simp] theorem A5S(cs:List V):BI bj 3 cs=cs[0]?:=by kernel_rfl
@[simp] theorem BAJ(cs:List V)(o:Nat):MN bj 3 cs o=cs[o]?:=by kernel_rfl
@[simp] theorem rT:bj.cellsOf 4=1:=by kernel_rfl
@[simp] theorem A5T(cs:List V):BI bj 4 cs=cs[0]?:=by kernel_rfl
@[simp] theorem AAP:bj.cellsOf 22=1:=by kernel_rfl
@[simp] theorem AZL(cs:List V):BI bj 22 cs=cs[0]?:=by kernel_rfl
@[simp] theorem AAQ:bj.cellsOf 23=1:=by kernel_rfl
@[simp] theorem AZM(cs:List V):BI bj 23 cs=cs[0]?:=by kernel_rfl
@[simp] theorem gO:bj.cellsOf 25=5:=by kernel_rfl
@[simp] theorem AZN(cs:List V):BI bj 25 cs=if 5<=cs.length then some (.agg (cs.take 5)) else none:=by kernel_rfl
@[simp] theorem A5U:bj.bytesOf 3=8/\BZ bj 3=some [.int .i64 0]/\dG bj 3=true/\BZ bj 4=some [.bool false]/\gT bj 4=true/\BJ bj 22=(some (none,133))/\DP bj 22=true/\BJ bj 23=(some (none,168))/\DP bj 23=true/\BE bj 25 0=some (3,0)/\BE bj 25 1=some (3,1)/\BE bj 25 2=some (3,2):=by and_intros<;>kernel_rfl
@[simp] theorem AAR:bj.cellsOf 26=1:=by kernel_rfl
@[simp] theorem AZO(cs:List V):BI bj 26 cs=cs[0]?:=by kernel_rfl
@[simp] theorem AAS:bj.cellsOf 27=1:=by kernel_rfl
@[simp] theorem AZP(cs:List V):BI bj 27 cs=cs[0]?:=by kernel_rfl
@[simp] theorem AAT:bj.cellsOf 29=8:=by kernel_rfl
@[simp] theorem AZQ(cs:List V):BI bj 29 cs=if 8<=cs.length then some (.agg (cs.take 8)) else none:=by kernel_rfl
@[simp] theorem AZR:BE bj 25 3=some (22,3)/\BE bj 25 4=some (23,4)/\BJ bj 26=(some (none,27))/\DP bj 26=true/\BJ bj 27=(some (none,54))/\DP bj 27=true/\BZ bj 29=some [.int .i64 0,.int .i64 0,.int .i64 0,.nil,.nil,.nil,.int .i64 0,.nil]/\BE bj 29 0=some (25,0)/\BE bj 29 1=some (26,5)/\BE bj 29 2=some (3,6)/\BE bj 29 3=some (27,7)/\BJ bj 32=(some (none,3)):=by and_intros<;>kernel_rfl
@[simp] theorem AZS(cs:List V):BI bj 36 cs=cs[0]?:=by kernel_rfl
@[simp] theorem AZT(cs:List V):BI bj 37 cs=cs[0]?:=by kernel_rfl
@[simp] theorem BAK:DP bj 32=true/\bj.cellsOf 36=1/\bj.bytesOf 36=24/\BZ bj 36=some [.nil]/\dG bj 36=true/\BJ bj 36=(some (none,96))/\DP bj 36=true/\bj.cellsOf 37=1/\BJ bj 37=(some (none,171))/\DP bj 37=true/\bj.cellsOf 39=5/\BZ bj 39=some [.int .i64 0,.int .i64 0,.int .i64 0,.nil,.nil]:=by and_intros<;>kernel_rfl
@[simp] theorem AZU(cs:List V):BI bj 39 cs=if 5<=cs.length then some (.agg (cs.take 5)) else none:=by kernel_rfl
@[simp] theorem AZV(ps:List (Nat×V)):CI bj 39 ps=if (ps.all fun p=>A9 p.2)=true then fU .agg (CR (fun i=>[(0,1),(1,1),(2,1),(3,1),(4,1)][i]?) [.int .i64 0,.int .i64 0,.int .i64 0,.nil,.nil] ps) else none:=DY (by kernel_rfl) Tryz.underlying39 (by kernel_rfl) (by kernel_rfl) ps
@[simp] theorem AZW(cs:List V):BI bj 40 cs=cs[0]?:=by kernel_rfl
@[simp] theorem AZX:BE bj 39 0=some (3,0)/\BE bj 39 1=some (3,1)/\BE bj 39 2=some (3,2)/\BE bj 39 3=some (36,3)/\BE bj 39 4=some (37,4)/\bj.cellsOf 40=1/\BJ bj 40=(some (none,41))/\DP bj 40=true/\bj.cellsOf 41=1/\bj.bytesOf 41=24/\BZ bj 41=some [.nil]/\dG bj 41=true:=by and_intros<;>kernel_rfl
@[simp] theorem AZY(cs:List V):BI bj 41 cs=cs[0]?:=by kernel_rfl
@[simp] theorem AZZ(cs:List V):BI bj 43 cs=if 8<=cs.length then some (.agg (cs.take 8)) else none:=by kernel_rfl
@[simp] theorem AZ0(ps:List (Nat×V)):CI bj 43 ps=if (ps.all fun p=>A9 p.2)=true then fU .agg (CR (fun i=>[(0,5),(5,1),(6,1),(7,1)][i]?) [.int .i64 0,.int .i64 0,.int .i64 0,.nil,.nil,.nil,.int .i64 0,.nil] ps) else none:=DY (by kernel_rfl) Tryz.underlying43 (by kernel_rfl) (by kernel_rfl) ps
@[simp] theorem AAU:bj.cellsOf 54=4:=by kernel_rfl
@[simp] theorem AZ1(cs:List V):BI bj 54 cs=if 4<=cs.length then some (.agg (cs.take 4)) else none:=by kernel_rfl
@[simp] theorem A5V:BJ bj 41=(some (none,98))/\DP bj 41=true/\bj.cellsOf 43=8/\BZ bj 43=some [.int .i64 0,.int .i64 0,.int .i64 0,.nil,.nil,.nil,.int .i64 0,.nil]/\BE bj 43 0=some (39,0)/\BE bj 43 1=some (40,5)/\BE bj 43 2=some (3,6)/\BE bj 43 3=some (41,7)/\BE bj 54 0=some (3,0)/\BE bj 54 1=some (4,1)/\BE bj 54 2=some (3,2)/\BE bj 54 3=some (4,3):=by and_intros<;>kernel_rfl
@[simp] theorem gP:bj.cellsOf 96=3:=by kernel_rfl
@[simp] theorem AZ2(cs:List V):BI bj 96 cs=if 3<=cs.length then some (.agg (cs.take 3)) else none:=by kernel_rfl
@[simp] theorem AZ3(ps:List (Nat×V)):CI bj 96 ps=if (ps.all fun p=>A9 p.2)=true then fU .agg (CR (fun i=>[(0,1),(1,1),(2,1)][i]?) [.int .i64 0,.int .i64 0,.int .i64 0] ps) else none:=DY (by kernel_rfl) Tryz.underlying96 (by kernel_rfl) (by kernel_rfl) ps
@[simp] theorem gQ:bj.cellsOf 98=4:=by kernel_rfl
@[simp] theorem AZ4(cs:List V):BI bj 98 cs=if 4<=cs.length then some (.agg (cs.take 4)) else none:=by kernel_rfl
@[simp] theorem AZ5:bj.bytesOf 96=24/\BZ bj 96=some [.int .i64 0,.int .i64 0,.int .i64 0]/\dG bj 96=true/\BE bj 96 0=some (3,0)/\BE bj 96 1=some (3,1)/\BE bj 96 2=some (3,2)/\bj.bytesOf 98=32/\BZ bj 98=some [.int .i64 0,.bool false,.int .i64 0,.bool false]/\dG bj 98=true/\BE bj 98 0=some (3,0)/\BE bj 98 1=some (4,1)/\BE bj 98 2=some (3,2):=by and_intros<;>kernel_rfl
@[simp] theorem AZ6(ps:List (Nat×V)):CI bj 98 ps=if (ps.all fun p=>A9 p.2)=true then fU .agg (CR (fun i=>[(0,1),(1,1),(2,1),(3,1)][i]?) [.int .i64 0,.bool false,.int .i64 0,.bool false] ps) else none:=DY (by kernel_rfl) Tryz.underlying98 (by kernel_rfl) (by kernel_rfl) ps
@[simp] theorem AR7(cs:List V):BI bj 104 cs=cs[0]?:=by kernel_rfl
@[simp] theorem AR8(cs:List V):BI bj 108 cs=cs[0]?:=by kernel_rfl
@[simp] theorem AR9(ps:List (Nat×V)):CI bj 110 ps=if (ps.all fun p=>A9 p.2)=true then fU .agg (CR (fun i=>[(0,8),(8,1)][i]?) [.int .i64 0,.int .i64 0,.int .i64 0,.nil,.nil,.nil,.int .i64 0,.nil,.nil] ps) else none:=DY (by kernel_rfl) Tryz.underlying110 (by kernel_rfl) (by kernel_rfl) ps
@[simp] theorem ASA(cs:List V):BI bj 112 cs=cs[0]?:=by kernel_rfl
@[simp] theorem ASB(cs:List V):BI bj 113 cs=cs[0]?:=by kernel_rfl
@[simp] theorem AZ7:BE bj 98 3=some (4,3)/\bj.cellsOf 104=1/\BZ bj 104=some [(.raw (.pointer none))]/\bj.cellsOf 108=1/\BJ bj 108=(some (none,114))/\DP bj 108=true/\BE bj 110 1=some (108,8)/\bj.cellsOf 112=1/\bj.cellsOf 114=1/\bj.bytesOf 114=8/\BZ bj 114=some [(.raw (.pointer none))]/\dG bj 114=true:=by and_intros<;>kernel_rfl
@[simp] theorem ASC(cs:List V):BI bj 114 cs=cs[0]?:=by kernel_rfl
@[simp] theorem ASD(ps:List (Nat×V)):CI bj 116 ps=if (ps.all fun p=>A9 p.2)=true then fU .agg (CR (fun i=>[(0,1)][i]?) [(.raw .nilFunc)] ps) else none:=DY (by kernel_rfl) Tryz.underlying116 (by kernel_rfl) (by kernel_rfl) ps
@[simp] theorem ASE(cs:List V):BI bj 126 cs=cs[0]?:=by kernel_rfl
@[simp] theorem ASF(cs:List V):BI bj 127 cs=cs[0]?:=by kernel_rfl
@[simp] theorem ASG(cs:List V):BI bj 128 cs=cs[0]?:=by kernel_rfl
@[simp] theorem ASH(ps:List (Nat×V)):CI bj 130 ps=if (ps.all fun p=>A9 p.2)=true then fU .agg (CR (fun i=>[(0,1),(1,1)][i]?) [.nil,(.raw (.map none))] ps) else none:=DY (by kernel_rfl) Tryz.underlying130 (by kernel_rfl) (by kernel_rfl) ps
@[simp] theorem uI:bj.cellsOf 133=3:=by kernel_rfl
@[simp] theorem ASI(cs:List V):BI bj 133 cs=if 3<=cs.length then some (.agg (cs.take 3)) else none:=by kernel_rfl
@[simp] theorem ASJ:BE bj 116 0=some (112,0)/\bj.cellsOf 126=1/\BZ bj 126=some [(.raw .nilFunc)]/\bj.cellsOf 127=1/\BZ bj 127=some [(.raw .nilFunc)]/\bj.cellsOf 128=1/\BE bj 130 0=some (36,0)/\BE bj 130 1=some (128,1)/\bj.bytesOf 133=24/\BZ bj 133=some [.int .i64 0,.int .i64 0,.int .i64 0]/\dG bj 133=true/\BE bj 133 0=some (3,0):=by and_intros<;>kernel_rfl
@[simp] theorem ASK(ps:List (Nat×V)):CI bj 133 ps=if (ps.all fun p=>A9 p.2)=true then fU .agg (CR (fun i=>[(0,1),(1,1),(2,1)][i]?) [.int .i64 0,.int .i64 0,.int .i64 0] ps) else none:=DY (by kernel_rfl) Tryz.underlying133 (by kernel_rfl) (by kernel_rfl) ps
@[simp] theorem ASL(cs:List V):BI bj 138 cs=cs[0]?:=by kernel_rfl
@[simp] theorem ASM(cs:List V):BI bj 151 cs=if 2<=cs.length then some (.agg (cs.take 2)) else none:=by kernel_rfl
@[simp] theorem ASN(ps:List (Nat×V)):CI bj 151 ps=if (ps.all fun p=>A9 p.2)=true then fU .agg (CR (fun i=>[(0,1),(1,1)][i]?) [.int .i64 0,.int .i64 0] ps) else none:=DY (by kernel_rfl) Tryz.underlying151 (by kernel_rfl) (by kernel_rfl) ps
@[simp] theorem aF:bj.cellsOf 160=4:=by kernel_rfl
@[simp] theorem ASO(cs:List V):BI bj 160 cs=if 4<=cs.length then some (.agg (cs.take 4)) else none:=by kernel_rfl
@[simp] theorem ASP:BE bj 133 1=some (3,1)/\BE bj 133 2=some (3,2)/\bj.cellsOf 138=1/\bj.cellsOf 151=2/\BZ bj 151=some [.int .i64 0,.int .i64 0]/\BE bj 151 0=some (3,0)/\BE bj 151 1=some (3,1)/\BZ bj 160=some [.int .i64 0,.int .i64 0,.int .i64 0,.int .i64 0]/\BJ bj 160=(some ((some 4),3))/\bj.cellsOf 162=10/\bj.bytesOf 162=80/\BZ bj 162=some [.int .i64 0,.int .i64 0,.int .i64 0,.int .i64 0,.int .i64 0,.int .i64 0,.int .i64 0,.int .i64 0,.int .i64 0,.int .i64 0]:=by and_intros<;>kernel_rfl
@[simp] theorem ASQ(cs:List V):BI bj 162 cs=if 10<=cs.length then some (.agg (cs.take 10)) else none:=by kernel_rfl
@[simp] theorem ASR(ps:List (Nat×V)):CI bj 162 ps=if (ps.all fun p=>A9 p.2)=true then fU .agg (CR (fun i=>[(0,4),(4,4),(8,1),(9,1)][i]?) [.int .i64 0,.int .i64 0,.int .i64 0,.int .i64 0,.int .i64 0,.int .i64 0,.int .i64 0,.int .i64 0,.int .i64 0,.int .i64 0] ps) else none:=DY (by kernel_rfl) Tryz.underlying162 (by kernel_rfl) (by kernel_rfl) ps
@[simp] theorem aG:bj.cellsOf 166=2:=by kernel_rfl
@[simp] theorem ASS(cs:List V):BI bj 166 cs=if 2<=cs.length then some (.agg (cs.take 2)) else none:=by kernel_rfl
@[simp] theorem uJ:bj.cellsOf 168=3:=by kernel_rfl
@[simp] theorem AST(cs:List V):BI bj 168 cs=if 3<=cs.length then some (.agg (cs.take 3)) else none:=by kernel_rfl
@[simp] theorem A5W:dG bj 162=true/\BE bj 162 0=some (160,0)/\BE bj 162 1=some (160,4)/\BE bj 162 2=some (3,8)/\BE bj 162 3=some (3,9)/\BE bj 166 0=some (3,0)/\BE bj 166 1=some (3,1)/\BZ bj 168=some [.int .i64 0,.int .i64 0,.int .i64 0]/\BE bj 168 0=some (3,0)/\BE bj 168 1=some (166,1)/\bj.cellsOf 171=3/\bj.bytesOf 171=24:=by and_intros<;>kernel_rfl
@[simp] theorem ASU(cs:List V):BI bj 171 cs=if 3<=cs.length then some (.agg (cs.take 3)) else none:=by kernel_rfl
@[simp] theorem ASV(ps:List (Nat×V)):CI bj 171 ps=if (ps.all fun p=>A9 p.2)=true then fU .agg (CR (fun i=>[(0,1),(1,2)][i]?) [.int .i64 0,.int .i64 0,.int .i64 0] ps) else none:=DY (by kernel_rfl) Tryz.underlying171 (by kernel_rfl) (by kernel_rfl) ps
@[simp] theorem ASW(cs:List V):BI bj 173 cs=cs[0]?:=by kernel_rfl
@[simp] theorem ASX(cs:List V):BI bj 188 cs=cs[0]?:=by kernel_rfl
@[simp] theorem ASY(cs:List V):BI bj 193 cs=cs[0]?:=by kernel_rfl
@[simp] theorem AZ8:BZ bj 171=some [.int .i64 0,.int .i64 0,.int .i64 0]/\dG bj 171=true/\BE bj 171 0=some (3,0)/\BE bj 171 1=some (151,1)/\bj.cellsOf 173=1/\BZ bj 173=some [.nil]/\BJ bj 173=(some (none,36))/\DP bj 173=true/\bj.cellsOf 188=1/\bj.cellsOf 193=1/\BZ bj 193=some [.nil]/\BJ bj 193=(some (none,162)):=by and_intros<;>kernel_rfl
@[simp] theorem ASZ(cs:List V):BI bj 195 cs=cs[0]?:=by kernel_rfl
@[simp] theorem AS0(cs:List V):BI bj 198 cs=cs[0]?:=by kernel_rfl
@[simp] theorem AS1(cs:List V):BI bj 216 cs=cs[0]?:=by kernel_rfl
@[simp] theorem AS2(cs:List V):BI bj 220 cs=cs[0]?:=by kernel_rfl
@[simp] theorem AS3(ps:List (Nat×V)):CI bj 222 ps=if (ps.all fun p=>A9 p.2)=true then fU .agg (CR (fun i=>[(0,5),(5,1)][i]?) [.int .i64 0,.int .i64 0,.int .i64 0,.nil,.nil,(.raw (.map none))] ps) else none:=DY (by kernel_rfl) Tryz.underlying222 (by kernel_rfl) (by kernel_rfl) ps
@[simp] theorem AS4(cs:List V):BI bj 224 cs=cs[0]?:=by kernel_rfl
@[simp] theorem aH:bj.cellsOf 239=9:=by kernel_rfl
@[simp] theorem AS5(cs:List V):BI bj 239 cs=if 9<=cs.length then some (.agg (cs.take 9)) else none:=by kernel_rfl
@[simp] theorem AS6(ps:List (Nat×V)):CI bj 239 ps=if (ps.all fun p=>A9 p.2)=true then fU .agg (CR (fun i=>[(0,1),(1,4),(5,4)][i]?) [.int .i64 0,.int .i64 0,.int .i64 0,.int .i64 0,.int .i64 0,.int .i64 0,.int .i64 0,.int .i64 0,.int .i64 0] ps) else none:=DY (by kernel_rfl) Tryz.underlying239 (by kernel_rfl) (by kernel_rfl) ps
@[simp] theorem A5X:DP bj 193=true/\bj.cellsOf 195=1/\BZ bj 195=some [(.raw (.map none))]/\bj.cellsOf 220=1/\BE bj 222 0=some (39,0)/\BE bj 222 1=some (220,5)/\BZ bj 239=some [.int .i64 0,.int .i64 0,.int .i64 0,.int .i64 0,.int .i64 0,.int .i64 0,.int .i64 0,.int .i64 0,.int .i64 0]:=by and_intros<;>kernel_rfl
end Go.Proofs.Tryz.Op
