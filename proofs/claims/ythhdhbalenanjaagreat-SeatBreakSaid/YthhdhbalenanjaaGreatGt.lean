/- What the seat's types come to. No condition. -/
import Derived.Test.YthhdhbalenanjaaGreatChecked
import Derived.Test.YthhdhbalenanjaaGreatSx
open Go.Proofs.Tryz renaming prog->bj
namespace Go.Proofs.Tryz.Op
open Go Go.Pg
theorem EP{P:Program}{T:TypeId}{z:List V}{fs:Array Field}{tab:List (Nat×Nat)}(hz:CA P T=some z)(hu:P.underlying T=some (.struct fs))(hi:(fs.all fun f=>(P.info? f.type).isSome)=true)(ht:fs.toList.map (fun f=>(f.offset,P.cellsOf f.type))=tab)(ps:List (Nat×V)) :
  CT P T ps=if (ps.all fun p=>A9 p.2)=true then nJ .agg (C6 (fun i=>tab[i]?) z ps) else none:=by
 have e:(fun i:Nat=>(fs[i]?).map fun (f:Field)=>(f.offset,P.cellsOf f.type))=fun i=>tab[i]?:=by funext i;rw[<-ht,List.getElem?_map];simp
 unfold CT
 rw[hz,hu]
 simp only[hi,and_true,e]
 cases C6 (fun i=>tab[i]?) z ps<;>rfl
@[simp] theorem AIW:bj.cellsOf 3=1:=by kernel_rfl
@[simp] theorem A6F(cs:List V):BF bj 3 cs=cs[0]?:=by kernel_rfl
@[simp] theorem BA4(cs:List V)(o:Nat):N6 bj 3 cs o=cs[o]?:=by kernel_rfl
@[simp] theorem AIX:bj.cellsOf 4=1:=by kernel_rfl
@[simp] theorem A6G(cs:List V):BF bj 4 cs=cs[0]?:=by kernel_rfl
@[simp] theorem BA5(cs:List V)(o:Nat):N6 bj 4 cs o=cs[o]?:=by kernel_rfl
@[simp] theorem ACK:bj.cellsOf 22=1:=by kernel_rfl
@[simp] theorem A0E(cs:List V):BF bj 22 cs=cs[0]?:=by kernel_rfl
@[simp] theorem jI:bj.cellsOf 23=1:=by kernel_rfl
@[simp] theorem A0F(cs:List V):BF bj 23 cs=cs[0]?:=by kernel_rfl
@[simp] theorem A6H:bj.bytesOf 3=8/\CA bj 3=some [.int .i64 0]/\cD bj 3=true/\bj.bytesOf 4=1/\CA bj 4=some [.bool false]/\cD bj 4=true/\bj.bytesOf 22=24/\CA bj 22=some [.nil]/\cD bj 22=true/\BQ bj 22=(some (none,3))/\C8 bj 22=true/\BQ bj 23=(some (none,22)):=by and_intros<;>kernel_rfl
@[simp] theorem ACL:bj.cellsOf 24=1:=by kernel_rfl
@[simp] theorem A0G(cs:List V):BF bj 24 cs=cs[0]?:=by kernel_rfl
@[simp] theorem ACM:bj.cellsOf 25=1:=by kernel_rfl
@[simp] theorem A0H(cs:List V):BF bj 25 cs=cs[0]?:=by kernel_rfl
@[simp] theorem jJ:bj.cellsOf 27=9:=by kernel_rfl
@[simp] theorem A0I(cs:List V):BF bj 27 cs=if 9<=cs.length then some (.agg (cs.take 9)) else none:=by kernel_rfl
@[simp] theorem BA6:C8 bj 23=true/\BQ bj 24=(some (none,59))/\C8 bj 24=true/\BQ bj 25=(some (none,188))/\C8 bj 25=true/\A0 bj 27 0=some (3,0)/\A0 bj 27 1=some (3,1)/\A0 bj 27 2=some (3,2)/\A0 bj 27 3=some (3,3)/\A0 bj 27 4=some (22,4)/\A0 bj 27 5=some (22,5)/\A0 bj 27 6=some (23,6):=by and_intros<;>kernel_rfl
@[simp] theorem ACN:bj.cellsOf 28=1:=by kernel_rfl
@[simp] theorem A0J(cs:List V):BF bj 28 cs=cs[0]?:=by kernel_rfl
@[simp] theorem ACO:bj.cellsOf 29=1:=by kernel_rfl
@[simp] theorem A0K(cs:List V):BF bj 29 cs=cs[0]?:=by kernel_rfl
@[simp] theorem ACP:bj.cellsOf 31=12:=by kernel_rfl
@[simp] theorem A0L(cs:List V):BF bj 31 cs=if 12<=cs.length then some (.agg (cs.take 12)) else none:=by kernel_rfl
@[simp] theorem A0M:A0 bj 27 7=some (24,7)/\A0 bj 27 8=some (25,8)/\BQ bj 28=(some (none,97))/\C8 bj 28=true/\BQ bj 29=(some (none,57))/\C8 bj 29=true/\CA bj 31=some [.int .i64 0,.int .i64 0,.int .i64 0,.int .i64 0,.nil,.nil,.nil,.nil,.nil,.nil,.nil,.nil]/\A0 bj 31 0=some (27,0)/\A0 bj 31 1=some (23,9)/\A0 bj 31 2=some (28,10)/\A0 bj 31 3=some (29,11)/\bj.cellsOf 37=1:=by and_intros<;>kernel_rfl
@[simp] theorem A0N(cs:List V):BF bj 37 cs=cs[0]?:=by kernel_rfl
@[simp] theorem A0O(cs:List V):BF bj 38 cs=cs[0]?:=by kernel_rfl
@[simp] theorem A0P(cs:List V):BF bj 40 cs=if 9<=cs.length then some (.agg (cs.take 9)) else none:=by kernel_rfl
@[simp] theorem A6I:CA bj 37=some [.nil]/\BQ bj 37=(some (none,86))/\C8 bj 37=true/\bj.cellsOf 38=1/\BQ bj 38=(some (none,99))/\C8 bj 38=true/\bj.cellsOf 40=9/\CA bj 40=some [.int .i64 0,.int .i64 0,.int .i64 0,.int .i64 0,.nil,.nil,.nil,.nil,.nil]/\A0 bj 40 0=some (3,0)/\A0 bj 40 1=some (3,1)/\A0 bj 40 2=some (3,2)/\A0 bj 40 3=some (3,3):=by and_intros<;>kernel_rfl
@[simp] theorem A0Q(ps:List (Nat×V)):CT bj 40 ps=if (ps.all fun p=>A9 p.2)=true then nJ .agg (C6 (fun i=>[(0,1),(1,1),(2,1),(3,1),(4,1),(5,1),(6,1),(7,1),(8,1)][i]?) [.int .i64 0,.int .i64 0,.int .i64 0,.int .i64 0,.nil,.nil,.nil,.nil,.nil] ps) else none:=EP (by kernel_rfl) Tryz.underlying40 (by kernel_rfl) (by kernel_rfl) ps
@[simp] theorem A0R(cs:List V):BF bj 41 cs=cs[0]?:=by kernel_rfl
@[simp] theorem A0S(cs:List V):BF bj 43 cs=if 12<=cs.length then some (.agg (cs.take 12)) else none:=by kernel_rfl
@[simp] theorem A0T:A0 bj 40 4=some (22,4)/\A0 bj 40 5=some (22,5)/\A0 bj 40 6=some (23,6)/\A0 bj 40 7=some (37,7)/\A0 bj 40 8=some (38,8)/\bj.cellsOf 41=1/\BQ bj 41=(some (none,94))/\C8 bj 41=true/\bj.cellsOf 43=12/\CA bj 43=some [.int .i64 0,.int .i64 0,.int .i64 0,.int .i64 0,.nil,.nil,.nil,.nil,.nil,.nil,.nil,.nil]/\A0 bj 43 0=some (40,0)/\A0 bj 43 1=some (23,9):=by and_intros<;>kernel_rfl
@[simp] theorem A0U(ps:List (Nat×V)):CT bj 43 ps=if (ps.all fun p=>A9 p.2)=true then nJ .agg (C6 (fun i=>[(0,9),(9,1),(10,1),(11,1)][i]?) [.int .i64 0,.int .i64 0,.int .i64 0,.int .i64 0,.nil,.nil,.nil,.nil,.nil,.nil,.nil,.nil] ps) else none:=EP (by kernel_rfl) Tryz.underlying43 (by kernel_rfl) (by kernel_rfl) ps
@[simp] theorem ACQ:bj.cellsOf 57=4:=by kernel_rfl
@[simp] theorem A0V(cs:List V):BF bj 57 cs=if 4<=cs.length then some (.agg (cs.take 4)) else none:=by kernel_rfl
@[simp] theorem A0W(cs:List V):BF bj 59 cs=if 2<=cs.length then some (.agg (cs.take 2)) else none:=by kernel_rfl
@[simp] theorem A0X:A0 bj 43 2=some (28,10)/\A0 bj 43 3=some (41,11)/\CA bj 57=some [.int .i64 0,.int .i64 0,.bool false,.bool false]/\A0 bj 57 0=some (3,0)/\A0 bj 57 1=some (3,1)/\A0 bj 57 2=some (4,2)/\A0 bj 57 3=some (4,3)/\bj.cellsOf 59=2/\bj.bytesOf 59=16/\CA bj 59=some [.int .i64 0,.int .i64 0]/\cD bj 59=true/\A0 bj 59 0=some (3,0):=by and_intros<;>kernel_rfl
@[simp] theorem A0Y(ps:List (Nat×V)):CT bj 59 ps=if (ps.all fun p=>A9 p.2)=true then nJ .agg (C6 (fun i=>[(0,1),(1,1)][i]?) [.int .i64 0,.int .i64 0] ps) else none:=EP (by kernel_rfl) Tryz.underlying59 (by kernel_rfl) (by kernel_rfl) ps
@[simp] theorem A0Z(cs:List V):BF bj 86 cs=if 2<=cs.length then some (.agg (cs.take 2)) else none:=by kernel_rfl
@[simp] theorem A00(ps:List (Nat×V)):CT bj 86 ps=if (ps.all fun p=>A9 p.2)=true then nJ .agg (C6 (fun i=>[(0,1),(1,1)][i]?) [.int .i64 0,.int .i64 0] ps) else none:=EP (by kernel_rfl) Tryz.underlying86 (by kernel_rfl) (by kernel_rfl) ps
@[simp] theorem A01(cs:List V):BF bj 94 cs=if 4<=cs.length then some (.agg (cs.take 4)) else none:=by kernel_rfl
@[simp] theorem A02:A0 bj 59 1=some (3,1)/\bj.cellsOf 86=2/\bj.bytesOf 86=16/\CA bj 86=some [.int .i64 0,.int .i64 0]/\cD bj 86=true/\A0 bj 86 0=some (3,0)/\A0 bj 86 1=some (3,1)/\bj.cellsOf 94=4/\bj.bytesOf 94=24/\CA bj 94=some [.int .i64 0,.int .i64 0,.bool false,.bool false]/\cD bj 94=true/\A0 bj 94 0=some (3,0):=by and_intros<;>kernel_rfl
@[simp] theorem A03(ps:List (Nat×V)):CT bj 94 ps=if (ps.all fun p=>A9 p.2)=true then nJ .agg (C6 (fun i=>[(0,1),(1,1),(2,1),(3,1)][i]?) [.int .i64 0,.int .i64 0,.bool false,.bool false] ps) else none:=EP (by kernel_rfl) Tryz.underlying94 (by kernel_rfl) (by kernel_rfl) ps
@[simp] theorem A04(cs:List V):BF bj 97 cs=cs[0]?:=by kernel_rfl
@[simp] theorem A05:A0 bj 94 1=some (3,1)/\A0 bj 94 2=some (4,2)/\A0 bj 94 3=some (4,3)/\bj.cellsOf 97=1/\bj.bytesOf 97=24/\CA bj 97=some [.nil]/\cD bj 97=true/\BQ bj 97=(some (none,4))/\C8 bj 97=true/\bj.cellsOf 99=2/\bj.bytesOf 99=16/\CA bj 99=some [.int .i64 0,.int .i64 0]:=by and_intros<;>kernel_rfl
@[simp] theorem A06(cs:List V):BF bj 99 cs=if 2<=cs.length then some (.agg (cs.take 2)) else none:=by kernel_rfl
@[simp] theorem A07(ps:List (Nat×V)):CT bj 99 ps=if (ps.all fun p=>A9 p.2)=true then nJ .agg (C6 (fun i=>[(0,1),(1,1)][i]?) [.int .i64 0,.int .i64 0] ps) else none:=EP (by kernel_rfl) Tryz.underlying99 (by kernel_rfl) (by kernel_rfl) ps
@[simp] theorem AT3(cs:List V):BF bj 120 cs=cs[0]?:=by kernel_rfl
@[simp] theorem AT4(cs:List V):BF bj 130 cs=cs[0]?:=by kernel_rfl
@[simp] theorem BA7:cD bj 99=true/\A0 bj 99 0=some (3,0)/\A0 bj 99 1=some (3,1)/\bj.cellsOf 120=1/\CA bj 120=some [.nil]/\BQ bj 120=(some (none,153))/\C8 bj 120=true/\bj.cellsOf 130=1/\CA bj 130=some [(.raw (.pointer none))]/\bj.cellsOf 151=2/\bj.bytesOf 151=16/\CA bj 151=some [.int .i64 0,.int .i64 0]:=by and_intros<;>kernel_rfl
@[simp] theorem AT5(cs:List V):BF bj 151 cs=if 2<=cs.length then some (.agg (cs.take 2)) else none:=by kernel_rfl
@[simp] theorem AT6(ps:List (Nat×V)):CT bj 151 ps=if (ps.all fun p=>A9 p.2)=true then nJ .agg (C6 (fun i=>[(0,1),(1,1)][i]?) [.int .i64 0,.int .i64 0] ps) else none:=EP (by kernel_rfl) Tryz.underlying151 (by kernel_rfl) (by kernel_rfl) ps
@[simp] theorem AT7(cs:List V):BF bj 153 cs=if 4<=cs.length then some (.agg (cs.take 4)) else none:=by kernel_rfl
@[simp] theorem AT8(ps:List (Nat×V)):CT bj 153 ps=if (ps.all fun p=>A9 p.2)=true then nJ .agg (C6 (fun i=>[(0,2),(2,2)][i]?) [.int .i64 0,.int .i64 0,.int .i64 0,.int .i64 0] ps) else none:=EP (by kernel_rfl) Tryz.underlying153 (by kernel_rfl) (by kernel_rfl) ps
@[simp] theorem AT9(cs:List V):BF bj 155 cs=if 3<=cs.length then some (.agg (cs.take 3)) else none:=by kernel_rfl
@[simp] theorem A6J:cD bj 151=true/\A0 bj 151 0=some (3,0)/\A0 bj 151 1=some (3,1)/\bj.cellsOf 153=4/\bj.bytesOf 153=32/\CA bj 153=some [.int .i64 0,.int .i64 0,.int .i64 0,.int .i64 0]/\cD bj 153=true/\A0 bj 153 0=some (151,0)/\A0 bj 153 1=some (86,2)/\bj.cellsOf 155=3/\CA bj 155=some [.int .i64 0,.int .i64 0,.int .i64 0]/\A0 bj 155 0=some (3,0):=by and_intros<;>kernel_rfl
@[simp] theorem AUA(cs:List V):BF bj 158 cs=if 3<=cs.length then some (.agg (cs.take 3)) else none:=by kernel_rfl
@[simp] theorem AUB(ps:List (Nat×V)):CT bj 158 ps=if (ps.all fun p=>A9 p.2)=true then nJ .agg (C6 (fun i=>[(0,1),(1,1),(2,1)][i]?) [.int .i64 0,.int .i64 0,.bool false] ps) else none:=EP (by kernel_rfl) Tryz.underlying158 (by kernel_rfl) (by kernel_rfl) ps
@[simp] theorem AUC(cs:List V):BF bj 168 cs=cs[0]?:=by kernel_rfl
@[simp] theorem AUD(cs:List V):BF bj 170 cs=cs[0]?:=by kernel_rfl
@[simp] theorem AUE:A0 bj 155 1=some (3,1)/\A0 bj 155 2=some (3,2)/\bj.cellsOf 158=3/\CA bj 158=some [.int .i64 0,.int .i64 0,.bool false]/\A0 bj 158 0=some (3,0)/\A0 bj 158 1=some (3,1)/\A0 bj 158 2=some (4,2)/\bj.cellsOf 168=1/\CA bj 168=some [(.raw .nilFunc)]/\bj.cellsOf 170=1/\BQ bj 170=(some (none,151))/\C8 bj 170=true:=by and_intros<;>kernel_rfl
@[simp] theorem AUF(cs:List V):BF bj 172 cs=cs[0]?:=by kernel_rfl
@[simp] theorem AUG(cs:List V):BF bj 173 cs=cs[0]?:=by kernel_rfl
@[simp] theorem AUH(ps:List (Nat×V)):CT bj 175 ps=if (ps.all fun p=>A9 p.2)=true then nJ .agg (C6 (fun i=>[(0,12),(12,1),(13,1)][i]?) [.int .i64 0,.int .i64 0,.int .i64 0,.int .i64 0,.nil,.nil,.nil,.nil,.nil,.nil,.nil,.nil,.nil,(.raw (.map none))] ps) else none:=EP (by kernel_rfl) Tryz.underlying175 (by kernel_rfl) (by kernel_rfl) ps
@[simp] theorem AUI(cs:List V):BF bj 177 cs=cs[0]?:=by kernel_rfl
@[simp] theorem AUJ:bj.cellsOf 172=1/\BQ bj 172=(some (none,206))/\C8 bj 172=true/\bj.cellsOf 173=1/\A0 bj 175 0=some (43,0)/\A0 bj 175 1=some (172,12)/\A0 bj 175 2=some (173,13)/\bj.cellsOf 177=1/\CA bj 177=some [(.raw .nilFunc)]/\bj.cellsOf 188=2/\A0 bj 188 0=some (3,0)/\A0 bj 188 1=some (3,1):=by and_intros<;>kernel_rfl
@[simp] theorem AUK(cs:List V):BF bj 191 cs=cs[0]?:=by kernel_rfl
@[simp] theorem AUL(cs:List V):BF bj 193 cs=cs[0]?:=by kernel_rfl
@[simp] theorem AUM(cs:List V):BF bj 200 cs=cs[0]?:=by kernel_rfl
@[simp] theorem AUN(cs:List V):BF bj 203 cs=cs[0]?:=by kernel_rfl
@[simp] theorem AUO(cs:List V):BF bj 204 cs=cs[0]?:=by kernel_rfl
@[simp] theorem A08:BQ bj 197=(some (none,204))/\C8 bj 197=true/\bj.cellsOf 204=1/\bj.bytesOf 204=24/\CA bj 204=some [.nil]/\cD bj 204=true/\BQ bj 204=(some (none,209))/\C8 bj 204=true/\bj.cellsOf 206=5/\bj.bytesOf 206=40/\CA bj 206=some [.int .i64 0,.int .i64 0,.int .i64 0,.int .i64 0,.int .i64 0]/\cD bj 206=true:=by and_intros<;>kernel_rfl
@[simp] theorem AUP(cs:List V):BF bj 206 cs=if 5<=cs.length then some (.agg (cs.take 5)) else none:=by kernel_rfl
@[simp] theorem AUQ(cs:List V):BF bj 207 cs=if 2<=cs.length then some (.agg (cs.take 2)) else none:=by kernel_rfl
@[simp] theorem AUR(ps:List (Nat×V)):CT bj 207 ps=if (ps.all fun p=>A9 p.2)=true then nJ .agg (C6 (fun i=>[(0,1),(1,1)][i]?) [.int .i64 0,.int .i64 0] ps) else none:=EP (by kernel_rfl) Tryz.underlying207 (by kernel_rfl) (by kernel_rfl) ps
@[simp] theorem AUS(cs:List V):BF bj 209 cs=if 5<=cs.length then some (.agg (cs.take 5)) else none:=by kernel_rfl
@[simp] theorem AUT(cs:List V):BF bj 221 cs=cs[0]?:=by kernel_rfl
@[simp] theorem AUU(cs:List V):BF bj 225 cs=cs[0]?:=by kernel_rfl
@[simp] theorem AUV(cs:List V):BF bj 226 cs=cs[0]?:=by kernel_rfl
@[simp] theorem A09:BQ bj 206=(some ((some 5),3))/\bj.cellsOf 207=2/\CA bj 207=some [.int .i64 0,.int .i64 0]/\A0 bj 207 0=some (3,0)/\A0 bj 207 1=some (3,1)/\bj.cellsOf 209=5/\bj.bytesOf 209=40/\CA bj 209=some [.int .i64 0,.int .i64 0,.int .i64 0,.int .i64 0,.int .i64 0]/\A0 bj 209 0=some (3,0)/\A0 bj 209 1=some (207,1)/\A0 bj 209 2=some (207,3)/\bj.cellsOf 233=1:=by and_intros<;>kernel_rfl
@[simp] theorem AUW(cs:List V):BF bj 233 cs=cs[0]?:=by kernel_rfl
@[simp] theorem AUX(cs:List V):BF bj 236 cs=cs[0]?:=by kernel_rfl
@[simp] theorem AUY(ps:List (Nat×V)):CT bj 238 ps=if (ps.all fun p=>A9 p.2)=true then nJ .agg (C6 (fun i=>[(0,1)][i]?) [(.raw .nilFunc)] ps) else none:=EP (by kernel_rfl) Tryz.underlying238 (by kernel_rfl) (by kernel_rfl) ps
@[simp] theorem AUZ(ps:List (Nat×V)):CT bj 250 ps=if (ps.all fun p=>A9 p.2)=true then nJ .agg (C6 (fun i=>[(0,9),(9,1),(10,1),(11,1)][i]?) [.int .i64 0,.int .i64 0,.int .i64 0,.int .i64 0,.nil,.nil,.nil,.nil,.nil,.nil,(.raw (.map none)),(.raw (.map none))] ps) else none:=EP (by kernel_rfl) Tryz.underlying250 (by kernel_rfl) (by kernel_rfl) ps
@[simp] theorem A1A:CA bj 233=some [(.raw (.pointer none))]/\bj.cellsOf 236=1/\A0 bj 238 0=some (236,0)/\A0 bj 250 0=some (40,0)/\A0 bj 250 1=some (23,9):=by and_intros<;>kernel_rfl
end Go.Proofs.Tryz.Op
