/- What the seat's types come to. No condition. -/
import Derived.Test.YthhdhbalenanjaaGreatChecked
import Derived.Test.YthhdhbalenanjaaGreatSx
open Go.Proofs.Tryz renaming prog->bj
namespace Go.Proofs.Tryz.Op
open Go Go.Pg
theorem EW{P:Program}{T:TypeId}{z:List V}{fs:Array Field}{tab:List (Nat×Nat)}(hz:CB P T=some z)(hu:P.underlying T=some (.struct fs))(hi:(fs.all fun f=>(P.info? f.type).isSome)=true)(ht:fs.toList.map (fun f=>(f.offset,P.cellsOf f.type))=tab)(ps:List (Nat×V)) :
  C4 P T ps=if (ps.all fun p=>BC p.2)=true then nA .agg (DC (fun i=>tab[i]?) z ps) else none:=by
 have e:(fun i:Nat=>(fs[i]?).map fun (f:Field)=>(f.offset,P.cellsOf f.type))=fun i=>tab[i]?:=by funext i;rw[<-ht,List.getElem?_map];simp
 unfold C4
 rw[hz,hu]
 simp only[hi,and_true,e]
 cases DC (fun i=>tab[i]?) z ps<;>rfl
@[simp] theorem AHH:bj.cellsOf 3=1:=by kernel_rfl
@[simp] theorem A60(cs:List V):BJ bj 3 cs=cs[0]?:=by kernel_rfl
@[simp] theorem BBS(cs:List V)(o:Nat):LF bj 3 cs o=cs[o]?:=by kernel_rfl
@[simp] theorem AHI:bj.cellsOf 4=1:=by kernel_rfl
@[simp] theorem A61(cs:List V):BJ bj 4 cs=cs[0]?:=by kernel_rfl
@[simp] theorem BBT(cs:List V)(o:Nat):LF bj 4 cs o=cs[o]?:=by kernel_rfl
@[simp] theorem ABE:bj.cellsOf 22=1:=by kernel_rfl
@[simp] theorem A0O(cs:List V):BJ bj 22 cs=cs[0]?:=by kernel_rfl
@[simp] theorem iE:bj.cellsOf 23=1:=by kernel_rfl
@[simp] theorem A0P(cs:List V):BJ bj 23 cs=cs[0]?:=by kernel_rfl
@[simp] theorem A62:bj.bytesOf 3=8/\CB bj 3=some [.int .i64 0]/\bA bj 3=true/\bj.bytesOf 4=1/\CB bj 4=some [.bool false]/\bA bj 4=true/\bj.bytesOf 22=24/\CB bj 22=some [.nil]/\bA bj 22=true/\BO bj 22=(some (none,3))/\DZ bj 22=true/\BO bj 23=(some (none,22)):=by and_intros<;>kernel_rfl
@[simp] theorem ABF:bj.cellsOf 24=1:=by kernel_rfl
@[simp] theorem A0Q(cs:List V):BJ bj 24 cs=cs[0]?:=by kernel_rfl
@[simp] theorem ABG:bj.cellsOf 25=1:=by kernel_rfl
@[simp] theorem A0R(cs:List V):BJ bj 25 cs=cs[0]?:=by kernel_rfl
@[simp] theorem iF:bj.cellsOf 27=9:=by kernel_rfl
@[simp] theorem A0S(cs:List V):BJ bj 27 cs=if 9<=cs.length then some (.agg (cs.take 9)) else none:=by kernel_rfl
@[simp] theorem BBU:DZ bj 23=true/\BO bj 24=(some (none,59))/\DZ bj 24=true/\BO bj 25=(some (none,188))/\DZ bj 25=true/\A1 bj 27 0=some (3,0)/\A1 bj 27 1=some (3,1)/\A1 bj 27 2=some (3,2)/\A1 bj 27 3=some (3,3)/\A1 bj 27 4=some (22,4)/\A1 bj 27 5=some (22,5)/\A1 bj 27 6=some (23,6):=by and_intros<;>kernel_rfl
@[simp] theorem ABH:bj.cellsOf 28=1:=by kernel_rfl
@[simp] theorem A0T(cs:List V):BJ bj 28 cs=cs[0]?:=by kernel_rfl
@[simp] theorem ABI:bj.cellsOf 29=1:=by kernel_rfl
@[simp] theorem A0U(cs:List V):BJ bj 29 cs=cs[0]?:=by kernel_rfl
@[simp] theorem ABJ:bj.cellsOf 31=12:=by kernel_rfl
@[simp] theorem A0V(cs:List V):BJ bj 31 cs=if 12<=cs.length then some (.agg (cs.take 12)) else none:=by kernel_rfl
@[simp] theorem A0W:A1 bj 27 7=some (24,7)/\A1 bj 27 8=some (25,8)/\BO bj 28=(some (none,97))/\DZ bj 28=true/\BO bj 29=(some (none,57))/\DZ bj 29=true/\CB bj 31=some [.int .i64 0,.int .i64 0,.int .i64 0,.int .i64 0,.nil,.nil,.nil,.nil,.nil,.nil,.nil,.nil]/\A1 bj 31 0=some (27,0)/\A1 bj 31 1=some (23,9)/\A1 bj 31 2=some (28,10)/\A1 bj 31 3=some (29,11)/\bj.cellsOf 37=1:=by and_intros<;>kernel_rfl
@[simp] theorem A0X(cs:List V):BJ bj 37 cs=cs[0]?:=by kernel_rfl
@[simp] theorem A0Y(cs:List V):BJ bj 38 cs=cs[0]?:=by kernel_rfl
@[simp] theorem A0Z(cs:List V):BJ bj 40 cs=if 9<=cs.length then some (.agg (cs.take 9)) else none:=by kernel_rfl
@[simp] theorem A63:CB bj 37=some [.nil]/\BO bj 37=(some (none,86))/\DZ bj 37=true/\bj.cellsOf 38=1/\BO bj 38=(some (none,99))/\DZ bj 38=true/\bj.cellsOf 40=9/\CB bj 40=some [.int .i64 0,.int .i64 0,.int .i64 0,.int .i64 0,.nil,.nil,.nil,.nil,.nil]/\A1 bj 40 0=some (3,0)/\A1 bj 40 1=some (3,1)/\A1 bj 40 2=some (3,2)/\A1 bj 40 3=some (3,3):=by and_intros<;>kernel_rfl
@[simp] theorem A00(ps:List (Nat×V)):C4 bj 40 ps=if (ps.all fun p=>BC p.2)=true then nA .agg (DC (fun i=>[(0,1),(1,1),(2,1),(3,1),(4,1),(5,1),(6,1),(7,1),(8,1)][i]?) [.int .i64 0,.int .i64 0,.int .i64 0,.int .i64 0,.nil,.nil,.nil,.nil,.nil] ps) else none:=EW (by kernel_rfl) Tryz.underlying40 (by kernel_rfl) (by kernel_rfl) ps
@[simp] theorem A01(cs:List V):BJ bj 41 cs=cs[0]?:=by kernel_rfl
@[simp] theorem A02(cs:List V):BJ bj 43 cs=if 12<=cs.length then some (.agg (cs.take 12)) else none:=by kernel_rfl
@[simp] theorem A03:A1 bj 40 4=some (22,4)/\A1 bj 40 5=some (22,5)/\A1 bj 40 6=some (23,6)/\A1 bj 40 7=some (37,7)/\A1 bj 40 8=some (38,8)/\bj.cellsOf 41=1/\BO bj 41=(some (none,94))/\DZ bj 41=true/\bj.cellsOf 43=12/\CB bj 43=some [.int .i64 0,.int .i64 0,.int .i64 0,.int .i64 0,.nil,.nil,.nil,.nil,.nil,.nil,.nil,.nil]/\A1 bj 43 0=some (40,0)/\A1 bj 43 1=some (23,9):=by and_intros<;>kernel_rfl
@[simp] theorem A04(ps:List (Nat×V)):C4 bj 43 ps=if (ps.all fun p=>BC p.2)=true then nA .agg (DC (fun i=>[(0,9),(9,1),(10,1),(11,1)][i]?) [.int .i64 0,.int .i64 0,.int .i64 0,.int .i64 0,.nil,.nil,.nil,.nil,.nil,.nil,.nil,.nil] ps) else none:=EW (by kernel_rfl) Tryz.underlying43 (by kernel_rfl) (by kernel_rfl) ps
@[simp] theorem ABK:bj.cellsOf 57=4:=by kernel_rfl
@[simp] theorem A05(cs:List V):BJ bj 57 cs=if 4<=cs.length then some (.agg (cs.take 4)) else none:=by kernel_rfl
@[simp] theorem A06(cs:List V):BJ bj 59 cs=if 2<=cs.length then some (.agg (cs.take 2)) else none:=by kernel_rfl
@[simp] theorem A07:A1 bj 43 2=some (28,10)/\A1 bj 43 3=some (41,11)/\bj.bytesOf 57=24/\CB bj 57=some [.int .i64 0,.int .i64 0,.bool false,.bool false]/\bA bj 57=true/\A1 bj 57 0=some (3,0)/\A1 bj 57 1=some (3,1)/\A1 bj 57 2=some (4,2)/\A1 bj 57 3=some (4,3)/\bj.cellsOf 59=2/\A1 bj 59 0=some (3,0)/\A1 bj 59 1=some (3,1):=by and_intros<;>kernel_rfl
@[simp] theorem A08(cs:List V):BJ bj 86 cs=if 2<=cs.length then some (.agg (cs.take 2)) else none:=by kernel_rfl
@[simp] theorem A09(ps:List (Nat×V)):C4 bj 86 ps=if (ps.all fun p=>BC p.2)=true then nA .agg (DC (fun i=>[(0,1),(1,1)][i]?) [.int .i64 0,.int .i64 0] ps) else none:=EW (by kernel_rfl) Tryz.underlying86 (by kernel_rfl) (by kernel_rfl) ps
@[simp] theorem A1A(cs:List V):BJ bj 94 cs=if 4<=cs.length then some (.agg (cs.take 4)) else none:=by kernel_rfl
@[simp] theorem A1B:bj.cellsOf 86=2/\bj.bytesOf 86=16/\CB bj 86=some [.int .i64 0,.int .i64 0]/\bA bj 86=true/\A1 bj 86 0=some (3,0)/\A1 bj 86 1=some (3,1)/\bj.cellsOf 94=4/\bj.bytesOf 94=24/\CB bj 94=some [.int .i64 0,.int .i64 0,.bool false,.bool false]/\bA bj 94=true/\A1 bj 94 0=some (3,0)/\A1 bj 94 1=some (3,1):=by and_intros<;>kernel_rfl
@[simp] theorem A1C(ps:List (Nat×V)):C4 bj 94 ps=if (ps.all fun p=>BC p.2)=true then nA .agg (DC (fun i=>[(0,1),(1,1),(2,1),(3,1)][i]?) [.int .i64 0,.int .i64 0,.bool false,.bool false] ps) else none:=EW (by kernel_rfl) Tryz.underlying94 (by kernel_rfl) (by kernel_rfl) ps
@[simp] theorem A1D(cs:List V):BJ bj 97 cs=cs[0]?:=by kernel_rfl
@[simp] theorem A1E:A1 bj 94 2=some (4,2)/\A1 bj 94 3=some (4,3)/\bj.cellsOf 97=1/\bj.bytesOf 97=24/\CB bj 97=some [.nil]/\bA bj 97=true/\BO bj 97=(some (none,4))/\DZ bj 97=true/\bj.cellsOf 99=2/\bj.bytesOf 99=16/\CB bj 99=some [.int .i64 0,.int .i64 0]/\bA bj 99=true:=by and_intros<;>kernel_rfl
@[simp] theorem A1F(cs:List V):BJ bj 99 cs=if 2<=cs.length then some (.agg (cs.take 2)) else none:=by kernel_rfl
@[simp] theorem A1G(ps:List (Nat×V)):C4 bj 99 ps=if (ps.all fun p=>BC p.2)=true then nA .agg (DC (fun i=>[(0,1),(1,1)][i]?) [.int .i64 0,.int .i64 0] ps) else none:=EW (by kernel_rfl) Tryz.underlying99 (by kernel_rfl) (by kernel_rfl) ps
@[simp] theorem ATN(cs:List V):BJ bj 120 cs=cs[0]?:=by kernel_rfl
@[simp] theorem ATO(cs:List V):BJ bj 130 cs=cs[0]?:=by kernel_rfl
@[simp] theorem ATP(cs:List V):BJ bj 151 cs=if 2<=cs.length then some (.agg (cs.take 2)) else none:=by kernel_rfl
@[simp] theorem A1H:A1 bj 99 0=some (3,0)/\A1 bj 99 1=some (3,1)/\bj.cellsOf 120=1/\CB bj 120=some [.nil]/\BO bj 120=(some (none,153))/\DZ bj 120=true/\bj.cellsOf 130=1/\bj.cellsOf 151=2/\bj.bytesOf 151=16/\CB bj 151=some [.int .i64 0,.int .i64 0]/\bA bj 151=true/\A1 bj 151 0=some (3,0):=by and_intros<;>kernel_rfl
@[simp] theorem ATQ(ps:List (Nat×V)):C4 bj 151 ps=if (ps.all fun p=>BC p.2)=true then nA .agg (DC (fun i=>[(0,1),(1,1)][i]?) [.int .i64 0,.int .i64 0] ps) else none:=EW (by kernel_rfl) Tryz.underlying151 (by kernel_rfl) (by kernel_rfl) ps
@[simp] theorem ATR(cs:List V):BJ bj 153 cs=if 4<=cs.length then some (.agg (cs.take 4)) else none:=by kernel_rfl
@[simp] theorem ATS(ps:List (Nat×V)):C4 bj 153 ps=if (ps.all fun p=>BC p.2)=true then nA .agg (DC (fun i=>[(0,2),(2,2)][i]?) [.int .i64 0,.int .i64 0,.int .i64 0,.int .i64 0] ps) else none:=EW (by kernel_rfl) Tryz.underlying153 (by kernel_rfl) (by kernel_rfl) ps
@[simp] theorem ATT(cs:List V):BJ bj 155 cs=if 3<=cs.length then some (.agg (cs.take 3)) else none:=by kernel_rfl
@[simp] theorem ATU:A1 bj 151 1=some (3,1)/\bj.cellsOf 153=4/\bj.bytesOf 153=32/\CB bj 153=some [.int .i64 0,.int .i64 0,.int .i64 0,.int .i64 0]/\bA bj 153=true/\A1 bj 153 0=some (151,0)/\A1 bj 153 1=some (86,2)/\bj.cellsOf 155=3/\CB bj 155=some [.int .i64 0,.int .i64 0,.int .i64 0]/\A1 bj 155 0=some (3,0)/\A1 bj 155 1=some (3,1)/\A1 bj 155 2=some (3,2):=by and_intros<;>kernel_rfl
@[simp] theorem ATV(cs:List V):BJ bj 158 cs=if 3<=cs.length then some (.agg (cs.take 3)) else none:=by kernel_rfl
@[simp] theorem ATW(ps:List (Nat×V)):C4 bj 158 ps=if (ps.all fun p=>BC p.2)=true then nA .agg (DC (fun i=>[(0,1),(1,1),(2,1)][i]?) [.int .i64 0,.int .i64 0,.bool false] ps) else none:=EW (by kernel_rfl) Tryz.underlying158 (by kernel_rfl) (by kernel_rfl) ps
@[simp] theorem ATX(cs:List V):BJ bj 170 cs=cs[0]?:=by kernel_rfl
@[simp] theorem ATY(cs:List V):BJ bj 172 cs=cs[0]?:=by kernel_rfl
@[simp] theorem ATZ(cs:List V):BJ bj 173 cs=cs[0]?:=by kernel_rfl
@[simp] theorem AT0:bj.cellsOf 158=3/\CB bj 158=some [.int .i64 0,.int .i64 0,.bool false]/\A1 bj 158 0=some (3,0)/\A1 bj 158 1=some (3,1)/\A1 bj 158 2=some (4,2)/\bj.cellsOf 170=1/\BO bj 170=(some (none,151))/\DZ bj 170=true/\bj.cellsOf 172=1/\BO bj 172=(some (none,206))/\bj.cellsOf 173=1/\A1 bj 175 0=some (43,0):=by and_intros<;>kernel_rfl
@[simp] theorem AT1(ps:List (Nat×V)):C4 bj 175 ps=if (ps.all fun p=>BC p.2)=true then nA .agg (DC (fun i=>[(0,12),(12,1),(13,1)][i]?) [.int .i64 0,.int .i64 0,.int .i64 0,.int .i64 0,.nil,.nil,.nil,.nil,.nil,.nil,.nil,.nil,.nil,(.raw (.map none))] ps) else none:=EW (by kernel_rfl) Tryz.underlying175 (by kernel_rfl) (by kernel_rfl) ps
@[simp] theorem AT2(cs:List V):BJ bj 177 cs=cs[0]?:=by kernel_rfl
@[simp] theorem AT3(cs:List V):BJ bj 191 cs=cs[0]?:=by kernel_rfl
@[simp] theorem AT4(cs:List V):BJ bj 193 cs=cs[0]?:=by kernel_rfl
@[simp] theorem AT5(cs:List V):BJ bj 200 cs=cs[0]?:=by kernel_rfl
@[simp] theorem AT6(cs:List V):BJ bj 203 cs=cs[0]?:=by kernel_rfl
@[simp] theorem AT7:A1 bj 175 1=some (172,12)/\A1 bj 175 2=some (173,13)/\bj.cellsOf 177=1/\CB bj 177=some [(.raw .nilFunc)]/\bj.cellsOf 188=2/\A1 bj 188 0=some (3,0)/\A1 bj 188 1=some (3,1)/\BO bj 197=(some (none,204))/\DZ bj 197=true/\bj.cellsOf 204=1/\bj.bytesOf 204=24/\CB bj 204=some [.nil]:=by and_intros<;>kernel_rfl
@[simp] theorem AT8(cs:List V):BJ bj 204 cs=cs[0]?:=by kernel_rfl
@[simp] theorem AT9(cs:List V):BJ bj 206 cs=if 5<=cs.length then some (.agg (cs.take 5)) else none:=by kernel_rfl
@[simp] theorem AUA(cs:List V):BJ bj 207 cs=if 2<=cs.length then some (.agg (cs.take 2)) else none:=by kernel_rfl
@[simp] theorem A64:bA bj 204=true/\BO bj 204=(some (none,209))/\DZ bj 204=true/\bj.cellsOf 206=5/\bj.bytesOf 206=40/\CB bj 206=some [.int .i64 0,.int .i64 0,.int .i64 0,.int .i64 0,.int .i64 0]/\bA bj 206=true/\BO bj 206=(some ((some 5),3))/\bj.cellsOf 207=2/\CB bj 207=some [.int .i64 0,.int .i64 0]/\A1 bj 207 0=some (3,0)/\A1 bj 207 1=some (3,1):=by and_intros<;>kernel_rfl
@[simp] theorem AUB(ps:List (Nat×V)):C4 bj 207 ps=if (ps.all fun p=>BC p.2)=true then nA .agg (DC (fun i=>[(0,1),(1,1)][i]?) [.int .i64 0,.int .i64 0] ps) else none:=EW (by kernel_rfl) Tryz.underlying207 (by kernel_rfl) (by kernel_rfl) ps
@[simp] theorem AUC(cs:List V):BJ bj 209 cs=if 5<=cs.length then some (.agg (cs.take 5)) else none:=by kernel_rfl
@[simp] theorem AUD(cs:List V):BJ bj 221 cs=cs[0]?:=by kernel_rfl
@[simp] theorem AUE(cs:List V):BJ bj 225 cs=cs[0]?:=by kernel_rfl
@[simp] theorem AUF(cs:List V):BJ bj 226 cs=cs[0]?:=by kernel_rfl
@[simp] theorem AUG(cs:List V):BJ bj 233 cs=cs[0]?:=by kernel_rfl
@[simp] theorem AUH(cs:List V):BJ bj 236 cs=cs[0]?:=by kernel_rfl
@[simp] theorem AUI(ps:List (Nat×V)):C4 bj 238 ps=if (ps.all fun p=>BC p.2)=true then nA .agg (DC (fun i=>[(0,1)][i]?) [(.raw .nilFunc)] ps) else none:=EW (by kernel_rfl) Tryz.underlying238 (by kernel_rfl) (by kernel_rfl) ps
@[simp] theorem AUJ:bj.cellsOf 209=5/\bj.bytesOf 209=40/\CB bj 209=some [.int .i64 0,.int .i64 0,.int .i64 0,.int .i64 0,.int .i64 0]/\A1 bj 209 0=some (3,0)/\A1 bj 209 1=some (207,1)/\A1 bj 209 2=some (207,3)/\bj.cellsOf 233=1/\CB bj 233=some [(.raw (.pointer none))]/\bj.cellsOf 236=1/\A1 bj 238 0=some (236,0)/\A1 bj 250 0=some (40,0)/\A1 bj 250 1=some (23,9):=by and_intros<;>kernel_rfl
@[simp] theorem AUK(ps:List (Nat×V)):C4 bj 250 ps=if (ps.all fun p=>BC p.2)=true then nA .agg (DC (fun i=>[(0,9),(9,1),(10,1),(11,1)][i]?) [.int .i64 0,.int .i64 0,.int .i64 0,.int .i64 0,.nil,.nil,.nil,.nil,.nil,.nil,(.raw (.map none)),(.raw (.map none))] ps) else none:=EW (by kernel_rfl) Tryz.underlying250 (by kernel_rfl) (by kernel_rfl) ps
end Go.Proofs.Tryz.Op
