/- What the seat's types come to. No condition. -/
import Derived.Test.YtmnlpgjklibndaaGreatChecked
import Derived.Test.YtmnlpgjklibndaaGreatSx
open Go.Proofs.Tryz renaming prog->bj
namespace Go.Proofs.Tryz.Op
open Go Go.Pg
theorem EB{P:Program}{T:TypeId}{z:List V}{fs:Array Field}{tab:List (Nat×Nat)}(hz:B8 P T=some z)(hu:P.underlying T=some (.struct fs))(hi:(fs.all fun f=>(P.info? f.type).isSome)=true)(ht:fs.toList.map (fun f=>(f.offset,P.cellsOf f.type))=tab)(ps:List (Nat×V)) :
  CJ P T ps=if (ps.all fun p=>BC p.2)=true then iV .agg (CW (fun i=>tab[i]?) z ps) else none:=by
 have e:(fun i:Nat=>(fs[i]?).map fun (f:Field)=>(f.offset,P.cellsOf f.type))=fun i=>tab[i]?:=by funext i;rw[<-ht,List.getElem?_map];simp
 unfold CJ
 rw[hz,hu]
 simp only[hi,and_true,e]
 cases CW (fun i=>tab[i]?) z ps<;>rfl
@[simp] theorem T1:bj.cellsOf 3=1:=by kernel_rfl
@[simp] theorem A0S(cs:List V):BJ bj 3 cs=cs[0]?:=by kernel_rfl
@[simp] theorem A5C(cs:List V)(o:Nat):LI bj 3 cs o=cs[o]?:=by kernel_rfl
@[simp] theorem nN:bj.cellsOf 4=1:=by kernel_rfl
@[simp] theorem A0T(cs:List V):BJ bj 4 cs=cs[0]?:=by kernel_rfl
@[simp] theorem wG:bj.cellsOf 22=1:=by kernel_rfl
@[simp] theorem AUN(cs:List V):BJ bj 22 cs=cs[0]?:=by kernel_rfl
@[simp] theorem wH:bj.cellsOf 23=1:=by kernel_rfl
@[simp] theorem AUO(cs:List V):BJ bj 23 cs=cs[0]?:=by kernel_rfl
@[simp] theorem dH:bj.cellsOf 25=5:=by kernel_rfl
@[simp] theorem AUP(cs:List V):BJ bj 25 cs=if 5<=cs.length then some (.agg (cs.take 5)) else none:=by kernel_rfl
@[simp] theorem A0U:bj.bytesOf 3=8/\B8 bj 3=some [.int .i64 0]/\cU bj 3=true/\bj.bytesOf 4=1/\B8 bj 4=some [.bool false]/\cU bj 4=true/\dK bj 4=true/\BK bj 22=(some (none,133))/\DP bj 22=true/\BK bj 23=(some (none,168))/\DP bj 23=true/\BD bj 25 0=some (3,0):=by and_intros<;>kernel_rfl
@[simp] theorem wI:bj.cellsOf 26=1:=by kernel_rfl
@[simp] theorem AUQ(cs:List V):BJ bj 26 cs=cs[0]?:=by kernel_rfl
@[simp] theorem wJ:bj.cellsOf 27=1:=by kernel_rfl
@[simp] theorem AUR(cs:List V):BJ bj 27 cs=cs[0]?:=by kernel_rfl
@[simp] theorem wK:bj.cellsOf 29=8:=by kernel_rfl
@[simp] theorem AUS(cs:List V):BJ bj 29 cs=if 8<=cs.length then some (.agg (cs.take 8)) else none:=by kernel_rfl
@[simp] theorem AUT:BD bj 25 1=some (3,1)/\BD bj 25 2=some (3,2)/\BD bj 25 3=some (22,3)/\BD bj 25 4=some (23,4)/\BK bj 26=(some (none,27))/\DP bj 26=true/\BK bj 27=(some (none,54))/\DP bj 27=true/\BD bj 29 0=some (25,0)/\BD bj 29 1=some (26,5)/\BD bj 29 2=some (3,6)/\BD bj 29 3=some (27,7):=by and_intros<;>kernel_rfl
@[simp] theorem AUU(cs:List V):BJ bj 36 cs=cs[0]?:=by kernel_rfl
@[simp] theorem AUV(cs:List V):BJ bj 37 cs=cs[0]?:=by kernel_rfl
@[simp] theorem AUW(cs:List V):BJ bj 39 cs=if 5<=cs.length then some (.agg (cs.take 5)) else none:=by kernel_rfl
@[simp] theorem A0V:BK bj 32=(some (none,3))/\DP bj 32=true/\bj.cellsOf 36=1/\B8 bj 36=some [.nil]/\BK bj 36=(some (none,96))/\DP bj 36=true/\bj.cellsOf 37=1/\BK bj 37=(some (none,171))/\DP bj 37=true/\bj.cellsOf 39=5/\B8 bj 39=some [.int .i64 0,.int .i64 0,.int .i64 0,.nil,.nil]/\BD bj 39 0=some (3,0):=by and_intros<;>kernel_rfl
@[simp] theorem AUX(ps:List (Nat×V)):CJ bj 39 ps=if (ps.all fun p=>BC p.2)=true then iV .agg (CW (fun i=>[(0,1),(1,1),(2,1),(3,1),(4,1)][i]?) [.int .i64 0,.int .i64 0,.int .i64 0,.nil,.nil] ps) else none:=EB (by kernel_rfl) Tryz.underlying39 (by kernel_rfl) (by kernel_rfl) ps
@[simp] theorem AUY(cs:List V):BJ bj 40 cs=cs[0]?:=by kernel_rfl
@[simp] theorem AUZ(cs:List V):BJ bj 41 cs=cs[0]?:=by kernel_rfl
@[simp] theorem AU0:BD bj 39 1=some (3,1)/\BD bj 39 2=some (3,2)/\BD bj 39 3=some (36,3)/\BD bj 39 4=some (37,4)/\bj.cellsOf 40=1/\BK bj 40=(some (none,41))/\DP bj 40=true/\bj.cellsOf 41=1/\bj.bytesOf 41=24/\B8 bj 41=some [.nil]/\cU bj 41=true/\BK bj 41=(some (none,98)):=by and_intros<;>kernel_rfl
@[simp] theorem AU1(cs:List V):BJ bj 43 cs=if 8<=cs.length then some (.agg (cs.take 8)) else none:=by kernel_rfl
@[simp] theorem AU2(ps:List (Nat×V)):CJ bj 43 ps=if (ps.all fun p=>BC p.2)=true then iV .agg (CW (fun i=>[(0,5),(5,1),(6,1),(7,1)][i]?) [.int .i64 0,.int .i64 0,.int .i64 0,.nil,.nil,.nil,.int .i64 0,.nil] ps) else none:=EB (by kernel_rfl) Tryz.underlying43 (by kernel_rfl) (by kernel_rfl) ps
@[simp] theorem wL:bj.cellsOf 54=4:=by kernel_rfl
@[simp] theorem AU3(cs:List V):BJ bj 54 cs=if 4<=cs.length then some (.agg (cs.take 4)) else none:=by kernel_rfl
@[simp] theorem A5D:DP bj 41=true/\bj.cellsOf 43=8/\B8 bj 43=some [.int .i64 0,.int .i64 0,.int .i64 0,.nil,.nil,.nil,.int .i64 0,.nil]/\BD bj 43 0=some (39,0)/\BD bj 43 1=some (40,5)/\BD bj 43 2=some (3,6)/\BD bj 43 3=some (41,7)/\BD bj 54 0=some (3,0)/\BD bj 54 1=some (4,1)/\BD bj 54 2=some (3,2)/\BD bj 54 3=some (4,3)/\BK bj 89=(some (none,4)):=by and_intros<;>kernel_rfl
@[simp] theorem AU4(cs:List V):BJ bj 96 cs=if 3<=cs.length then some (.agg (cs.take 3)) else none:=by kernel_rfl
@[simp] theorem AU5(ps:List (Nat×V)):CJ bj 96 ps=if (ps.all fun p=>BC p.2)=true then iV .agg (CW (fun i=>[(0,1),(1,1),(2,1)][i]?) [.int .i64 0,.int .i64 0,.int .i64 0] ps) else none:=EB (by kernel_rfl) Tryz.underlying96 (by kernel_rfl) (by kernel_rfl) ps
@[simp] theorem dI:bj.cellsOf 98=4:=by kernel_rfl
@[simp] theorem AU6(cs:List V):BJ bj 98 cs=if 4<=cs.length then some (.agg (cs.take 4)) else none:=by kernel_rfl
@[simp] theorem A5E:DP bj 89=true/\bj.cellsOf 96=3/\bj.bytesOf 96=24/\B8 bj 96=some [.int .i64 0,.int .i64 0,.int .i64 0]/\cU bj 96=true/\BD bj 96 0=some (3,0)/\BD bj 96 1=some (3,1)/\BD bj 96 2=some (3,2)/\bj.bytesOf 98=32/\B8 bj 98=some [.int .i64 0,.bool false,.int .i64 0,.bool false]/\cU bj 98=true/\BD bj 98 0=some (3,0):=by and_intros<;>kernel_rfl
@[simp] theorem AU7(ps:List (Nat×V)):CJ bj 98 ps=if (ps.all fun p=>BC p.2)=true then iV .agg (CW (fun i=>[(0,1),(1,1),(2,1),(3,1)][i]?) [.int .i64 0,.bool false,.int .i64 0,.bool false] ps) else none:=EB (by kernel_rfl) Tryz.underlying98 (by kernel_rfl) (by kernel_rfl) ps
@[simp] theorem ANX(cs:List V):BJ bj 113 cs=cs[0]?:=by kernel_rfl
@[simp] theorem ANY(cs:List V):BJ bj 126 cs=cs[0]?:=by kernel_rfl
@[simp] theorem ANZ(cs:List V):BJ bj 127 cs=cs[0]?:=by kernel_rfl
@[simp] theorem AN0(cs:List V):BJ bj 128 cs=cs[0]?:=by kernel_rfl
@[simp] theorem AN1(ps:List (Nat×V)):CJ bj 130 ps=if (ps.all fun p=>BC p.2)=true then iV .agg (CW (fun i=>[(0,1),(1,1)][i]?) [.nil,(.raw (.map none))] ps) else none:=EB (by kernel_rfl) Tryz.underlying130 (by kernel_rfl) (by kernel_rfl) ps
@[simp] theorem pT:bj.cellsOf 133=3:=by kernel_rfl
@[simp] theorem AU8:BD bj 98 1=some (4,1)/\BD bj 98 2=some (3,2)/\BD bj 98 3=some (4,3)/\bj.cellsOf 126=1/\B8 bj 126=some [(.raw .nilFunc)]/\bj.cellsOf 127=1/\B8 bj 127=some [(.raw .nilFunc)]/\bj.cellsOf 128=1/\BD bj 130 0=some (36,0)/\BD bj 130 1=some (128,1)/\bj.bytesOf 133=24/\B8 bj 133=some [.int .i64 0,.int .i64 0,.int .i64 0]:=by and_intros<;>kernel_rfl
@[simp] theorem AN2(cs:List V):BJ bj 133 cs=if 3<=cs.length then some (.agg (cs.take 3)) else none:=by kernel_rfl
@[simp] theorem AN3(ps:List (Nat×V)):CJ bj 133 ps=if (ps.all fun p=>BC p.2)=true then iV .agg (CW (fun i=>[(0,1),(1,1),(2,1)][i]?) [.int .i64 0,.int .i64 0,.int .i64 0] ps) else none:=EB (by kernel_rfl) Tryz.underlying133 (by kernel_rfl) (by kernel_rfl) ps
@[simp] theorem AN4(cs:List V):BJ bj 151 cs=if 2<=cs.length then some (.agg (cs.take 2)) else none:=by kernel_rfl
@[simp] theorem AN5(ps:List (Nat×V)):CJ bj 151 ps=if (ps.all fun p=>BC p.2)=true then iV .agg (CW (fun i=>[(0,1),(1,1)][i]?) [.int .i64 0,.int .i64 0] ps) else none:=EB (by kernel_rfl) Tryz.underlying151 (by kernel_rfl) (by kernel_rfl) ps
@[simp] theorem YF:bj.cellsOf 160=4:=by kernel_rfl
@[simp] theorem AN6(cs:List V):BJ bj 160 cs=if 4<=cs.length then some (.agg (cs.take 4)) else none:=by kernel_rfl
@[simp] theorem A0W:cU bj 133=true/\BD bj 133 0=some (3,0)/\BD bj 133 1=some (3,1)/\BD bj 133 2=some (3,2)/\bj.cellsOf 151=2/\B8 bj 151=some [.int .i64 0,.int .i64 0]/\BD bj 151 0=some (3,0)/\BD bj 151 1=some (3,1)/\B8 bj 160=some [.int .i64 0,.int .i64 0,.int .i64 0,.int .i64 0]/\BK bj 160=(some ((some 4),3))/\bj.cellsOf 162=10/\bj.bytesOf 162=80:=by and_intros<;>kernel_rfl
@[simp] theorem AN7(cs:List V):BJ bj 162 cs=if 10<=cs.length then some (.agg (cs.take 10)) else none:=by kernel_rfl
@[simp] theorem AN8(ps:List (Nat×V)):CJ bj 162 ps=if (ps.all fun p=>BC p.2)=true then iV .agg (CW (fun i=>[(0,4),(4,4),(8,1),(9,1)][i]?) [.int .i64 0,.int .i64 0,.int .i64 0,.int .i64 0,.int .i64 0,.int .i64 0,.int .i64 0,.int .i64 0,.int .i64 0,.int .i64 0] ps) else none:=EB (by kernel_rfl) Tryz.underlying162 (by kernel_rfl) (by kernel_rfl) ps
@[simp] theorem YG:bj.cellsOf 166=2:=by kernel_rfl
@[simp] theorem AN9(cs:List V):BJ bj 166 cs=if 2<=cs.length then some (.agg (cs.take 2)) else none:=by kernel_rfl
@[simp] theorem pU:bj.cellsOf 168=3:=by kernel_rfl
@[simp] theorem AOA(cs:List V):BJ bj 168 cs=if 3<=cs.length then some (.agg (cs.take 3)) else none:=by kernel_rfl
@[simp] theorem AU9:B8 bj 162=some [.int .i64 0,.int .i64 0,.int .i64 0,.int .i64 0,.int .i64 0,.int .i64 0,.int .i64 0,.int .i64 0,.int .i64 0,.int .i64 0]/\cU bj 162=true/\BD bj 162 0=some (160,0)/\BD bj 162 1=some (160,4)/\BD bj 162 2=some (3,8)/\BD bj 162 3=some (3,9)/\BD bj 166 0=some (3,0)/\BD bj 166 1=some (3,1)/\B8 bj 168=some [.int .i64 0,.int .i64 0,.int .i64 0]/\BD bj 168 0=some (3,0)/\BD bj 168 1=some (166,1)/\bj.cellsOf 171=3:=by and_intros<;>kernel_rfl
@[simp] theorem AOB(cs:List V):BJ bj 171 cs=if 3<=cs.length then some (.agg (cs.take 3)) else none:=by kernel_rfl
@[simp] theorem AOC(ps:List (Nat×V)):CJ bj 171 ps=if (ps.all fun p=>BC p.2)=true then iV .agg (CW (fun i=>[(0,1),(1,2)][i]?) [.int .i64 0,.int .i64 0,.int .i64 0] ps) else none:=EB (by kernel_rfl) Tryz.underlying171 (by kernel_rfl) (by kernel_rfl) ps
@[simp] theorem AOD(cs:List V):BJ bj 188 cs=cs[0]?:=by kernel_rfl
@[simp] theorem AOE(cs:List V):BJ bj 193 cs=cs[0]?:=by kernel_rfl
@[simp] theorem AOF(cs:List V):BJ bj 198 cs=cs[0]?:=by kernel_rfl
@[simp] theorem AOG(cs:List V):BJ bj 216 cs=cs[0]?:=by kernel_rfl
@[simp] theorem AOH(cs:List V):BJ bj 220 cs=cs[0]?:=by kernel_rfl
@[simp] theorem AOI:bj.bytesOf 171=24/\B8 bj 171=some [.int .i64 0,.int .i64 0,.int .i64 0]/\cU bj 171=true/\BD bj 171 0=some (3,0)/\BD bj 171 1=some (151,1)/\bj.cellsOf 188=1/\bj.cellsOf 193=1/\B8 bj 193=some [.nil]/\BK bj 193=(some (none,162))/\DP bj 193=true/\bj.cellsOf 220=1/\BD bj 222 0=some (39,0):=by and_intros<;>kernel_rfl
@[simp] theorem AOJ(ps:List (Nat×V)):CJ bj 222 ps=if (ps.all fun p=>BC p.2)=true then iV .agg (CW (fun i=>[(0,5),(5,1)][i]?) [.int .i64 0,.int .i64 0,.int .i64 0,.nil,.nil,(.raw (.map none))] ps) else none:=EB (by kernel_rfl) Tryz.underlying222 (by kernel_rfl) (by kernel_rfl) ps
@[simp] theorem AOK(cs:List V):BJ bj 224 cs=cs[0]?:=by kernel_rfl
@[simp] theorem YH:bj.cellsOf 239=9:=by kernel_rfl
@[simp] theorem AOL(cs:List V):BJ bj 239 cs=if 9<=cs.length then some (.agg (cs.take 9)) else none:=by kernel_rfl
@[simp] theorem AOM(ps:List (Nat×V)):CJ bj 239 ps=if (ps.all fun p=>BC p.2)=true then iV .agg (CW (fun i=>[(0,1),(1,4),(5,4)][i]?) [.int .i64 0,.int .i64 0,.int .i64 0,.int .i64 0,.int .i64 0,.int .i64 0,.int .i64 0,.int .i64 0,.int .i64 0] ps) else none:=EB (by kernel_rfl) Tryz.underlying239 (by kernel_rfl) (by kernel_rfl) ps
@[simp] theorem AON:BD bj 222 1=some (220,5)/\B8 bj 239=some [.int .i64 0,.int .i64 0,.int .i64 0,.int .i64 0,.int .i64 0,.int .i64 0,.int .i64 0,.int .i64 0,.int .i64 0]:=by and_intros<;>kernel_rfl
end Go.Proofs.Tryz.Op
