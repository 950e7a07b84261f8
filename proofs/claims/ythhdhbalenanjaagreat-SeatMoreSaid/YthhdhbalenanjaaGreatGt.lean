/- What the seat's types come to. No condition. -/
import Derived.Test.YthhdhbalenanjaaGreatChecked
import Derived.Test.YthhdhbalenanjaaGreatSx
open Go.Proofs.Tryz renaming prog->bj
namespace Go.Proofs.Tryz.Op
open Go Go.Pg
theorem EI{P:Program}{T:TypeId}{z:List V}{fs:Array Field}{tab:List (Nat×Nat)}(hz:CC P T=some z)(hu:P.underlying T=some (.struct fs))(hi:(fs.all fun f=>(P.info? f.type).isSome)=true)(ht:fs.toList.map (fun f=>(f.offset,P.cellsOf f.type))=tab)(ps:List (Nat×V)) :
  CU P T ps=if (ps.all fun p=>BE p.2)=true then mH .agg (DA (fun i=>tab[i]?) z ps) else none:=by
 have e:(fun i:Nat=>(fs[i]?).map fun (f:Field)=>(f.offset,P.cellsOf f.type))=fun i=>tab[i]?:=by funext i;rw[<-ht,List.getElem?_map];simp
 unfold CU
 rw[hz,hu]
 simp only[hi,and_true,e]
 cases DA (fun i=>tab[i]?) z ps<;>rfl
@[simp] theorem AM4:bj.cellsOf 3=1:=by kernel_rfl
@[simp] theorem BEK(cs:List V):BN bj 3 cs=cs[0]?:=by kernel_rfl
@[simp] theorem BJW(cs:List V)(o:Nat):MT bj 3 cs o=cs[o]?:=by kernel_rfl
@[simp] theorem AM5:bj.cellsOf 4=1:=by kernel_rfl
@[simp] theorem BEL(cs:List V):BN bj 4 cs=cs[0]?:=by kernel_rfl
@[simp] theorem BJX(cs:List V)(o:Nat):MT bj 4 cs o=cs[o]?:=by kernel_rfl
@[simp] theorem AGR:bj.cellsOf 22=1:=by kernel_rfl
@[simp] theorem A7Z(cs:List V):BN bj 22 cs=cs[0]?:=by kernel_rfl
@[simp] theorem nL:bj.cellsOf 23=1:=by kernel_rfl
@[simp] theorem A70(cs:List V):BN bj 23 cs=cs[0]?:=by kernel_rfl
@[simp] theorem BEM:bj.bytesOf 3=8/\CC bj 3=some [.int .i64 0]/\Y1 bj 3=true/\bj.bytesOf 4=1/\CC bj 4=some [.bool false]/\Y1 bj 4=true/\bj.bytesOf 22=24/\CC bj 22=some [.nil]/\Y1 bj 22=true/\BU bj 22=(some (none,3))/\DX bj 22=true/\BU bj 23=(some (none,22)):=by and_intros<;>kernel_rfl
@[simp] theorem AGS:bj.cellsOf 24=1:=by kernel_rfl
@[simp] theorem A71(cs:List V):BN bj 24 cs=cs[0]?:=by kernel_rfl
@[simp] theorem AGT:bj.cellsOf 25=1:=by kernel_rfl
@[simp] theorem A72(cs:List V):BN bj 25 cs=cs[0]?:=by kernel_rfl
@[simp] theorem nM:bj.cellsOf 27=9:=by kernel_rfl
@[simp] theorem A73(cs:List V):BN bj 27 cs=if 9<=cs.length then some (.agg (cs.take 9)) else none:=by kernel_rfl
@[simp] theorem BJY:DX bj 23=true/\BU bj 24=(some (none,59))/\DX bj 24=true/\BU bj 25=(some (none,188))/\DX bj 25=true/\A1 bj 27 0=some (3,0)/\A1 bj 27 1=some (3,1)/\A1 bj 27 2=some (3,2)/\A1 bj 27 3=some (3,3)/\A1 bj 27 4=some (22,4)/\A1 bj 27 5=some (22,5)/\A1 bj 27 6=some (23,6):=by and_intros<;>kernel_rfl
@[simp] theorem AGU:bj.cellsOf 28=1:=by kernel_rfl
@[simp] theorem A74(cs:List V):BN bj 28 cs=cs[0]?:=by kernel_rfl
@[simp] theorem nN:bj.cellsOf 29=1:=by kernel_rfl
@[simp] theorem A75(cs:List V):BN bj 29 cs=cs[0]?:=by kernel_rfl
@[simp] theorem AGV:bj.cellsOf 31=12:=by kernel_rfl
@[simp] theorem A76(cs:List V):BN bj 31 cs=if 12<=cs.length then some (.agg (cs.take 12)) else none:=by kernel_rfl
@[simp] theorem A77:A1 bj 27 7=some (24,7)/\A1 bj 27 8=some (25,8)/\BU bj 28=(some (none,97))/\DX bj 28=true/\BU bj 29=(some (none,57))/\DX bj 29=true/\CC bj 31=some [.int .i64 0,.int .i64 0,.int .i64 0,.int .i64 0,.nil,.nil,.nil,.nil,.nil,.nil,.nil,.nil]/\A1 bj 31 0=some (27,0)/\A1 bj 31 1=some (23,9)/\A1 bj 31 2=some (28,10)/\A1 bj 31 3=some (29,11)/\bj.cellsOf 37=1:=by and_intros<;>kernel_rfl
@[simp] theorem A78(cs:List V):BN bj 37 cs=cs[0]?:=by kernel_rfl
@[simp] theorem A79(cs:List V):BN bj 38 cs=cs[0]?:=by kernel_rfl
@[simp] theorem A8A(cs:List V):BN bj 40 cs=if 9<=cs.length then some (.agg (cs.take 9)) else none:=by kernel_rfl
@[simp] theorem BEN:CC bj 37=some [.nil]/\BU bj 37=(some (none,86))/\DX bj 37=true/\bj.cellsOf 38=1/\BU bj 38=(some (none,99))/\DX bj 38=true/\bj.cellsOf 40=9/\CC bj 40=some [.int .i64 0,.int .i64 0,.int .i64 0,.int .i64 0,.nil,.nil,.nil,.nil,.nil]/\A1 bj 40 0=some (3,0)/\A1 bj 40 1=some (3,1)/\A1 bj 40 2=some (3,2)/\A1 bj 40 3=some (3,3):=by and_intros<;>kernel_rfl
@[simp] theorem A8B(ps:List (Nat×V)):CU bj 40 ps=if (ps.all fun p=>BE p.2)=true then mH .agg (DA (fun i=>[(0,1),(1,1),(2,1),(3,1),(4,1),(5,1),(6,1),(7,1),(8,1)][i]?) [.int .i64 0,.int .i64 0,.int .i64 0,.int .i64 0,.nil,.nil,.nil,.nil,.nil] ps) else none:=EI (by kernel_rfl) Tryz.underlying40 (by kernel_rfl) (by kernel_rfl) ps
@[simp] theorem A8C(cs:List V):BN bj 41 cs=cs[0]?:=by kernel_rfl
@[simp] theorem A8D(cs:List V):BN bj 43 cs=if 12<=cs.length then some (.agg (cs.take 12)) else none:=by kernel_rfl
@[simp] theorem A8E:A1 bj 40 4=some (22,4)/\A1 bj 40 5=some (22,5)/\A1 bj 40 6=some (23,6)/\A1 bj 40 7=some (37,7)/\A1 bj 40 8=some (38,8)/\bj.cellsOf 41=1/\BU bj 41=(some (none,94))/\DX bj 41=true/\bj.cellsOf 43=12/\CC bj 43=some [.int .i64 0,.int .i64 0,.int .i64 0,.int .i64 0,.nil,.nil,.nil,.nil,.nil,.nil,.nil,.nil]/\A1 bj 43 0=some (40,0)/\A1 bj 43 1=some (23,9):=by and_intros<;>kernel_rfl
@[simp] theorem A8F(ps:List (Nat×V)):CU bj 43 ps=if (ps.all fun p=>BE p.2)=true then mH .agg (DA (fun i=>[(0,9),(9,1),(10,1),(11,1)][i]?) [.int .i64 0,.int .i64 0,.int .i64 0,.int .i64 0,.nil,.nil,.nil,.nil,.nil,.nil,.nil,.nil] ps) else none:=EI (by kernel_rfl) Tryz.underlying43 (by kernel_rfl) (by kernel_rfl) ps
@[simp] theorem nO:bj.cellsOf 57=4:=by kernel_rfl
@[simp] theorem A8G(cs:List V):BN bj 57 cs=if 4<=cs.length then some (.agg (cs.take 4)) else none:=by kernel_rfl
@[simp] theorem A8H:A1 bj 43 2=some (28,10)/\A1 bj 43 3=some (41,11)/\BU bj 49=(some (none,135))/\DX bj 49=true/\BU bj 52=(some (none,137))/\bj.bytesOf 57=24/\CC bj 57=some [.int .i64 0,.int .i64 0,.bool false,.bool false]/\Y1 bj 57=true/\A1 bj 57 0=some (3,0)/\A1 bj 57 1=some (3,1)/\A1 bj 57 2=some (4,2)/\A1 bj 57 3=some (4,3):=by and_intros<;>kernel_rfl
@[simp] theorem A8I(cs:List V):BN bj 59 cs=if 2<=cs.length then some (.agg (cs.take 2)) else none:=by kernel_rfl
@[simp] theorem A8J(ps:List (Nat×V)):CU bj 59 ps=if (ps.all fun p=>BE p.2)=true then mH .agg (DA (fun i=>[(0,1),(1,1)][i]?) [.int .i64 0,.int .i64 0] ps) else none:=EI (by kernel_rfl) Tryz.underlying59 (by kernel_rfl) (by kernel_rfl) ps
@[simp] theorem A8K(cs:List V):BN bj 86 cs=if 2<=cs.length then some (.agg (cs.take 2)) else none:=by kernel_rfl
@[simp] theorem A8L:bj.cellsOf 59=2/\bj.bytesOf 59=16/\CC bj 59=some [.int .i64 0,.int .i64 0]/\Y1 bj 59=true/\A1 bj 59 0=some (3,0)/\A1 bj 59 1=some (3,1)/\bj.cellsOf 86=2/\bj.bytesOf 86=16/\CC bj 86=some [.int .i64 0,.int .i64 0]/\Y1 bj 86=true/\A1 bj 86 0=some (3,0)/\A1 bj 86 1=some (3,1):=by and_intros<;>kernel_rfl
@[simp] theorem A8M(ps:List (Nat×V)):CU bj 86 ps=if (ps.all fun p=>BE p.2)=true then mH .agg (DA (fun i=>[(0,1),(1,1)][i]?) [.int .i64 0,.int .i64 0] ps) else none:=EI (by kernel_rfl) Tryz.underlying86 (by kernel_rfl) (by kernel_rfl) ps
@[simp] theorem A8N(cs:List V):BN bj 94 cs=if 4<=cs.length then some (.agg (cs.take 4)) else none:=by kernel_rfl
@[simp] theorem A8O(ps:List (Nat×V)):CU bj 94 ps=if (ps.all fun p=>BE p.2)=true then mH .agg (DA (fun i=>[(0,1),(1,1),(2,1),(3,1)][i]?) [.int .i64 0,.int .i64 0,.bool false,.bool false] ps) else none:=EI (by kernel_rfl) Tryz.underlying94 (by kernel_rfl) (by kernel_rfl) ps
@[simp] theorem A8P:bj.cellsOf 94=4/\bj.bytesOf 94=24/\CC bj 94=some [.int .i64 0,.int .i64 0,.bool false,.bool false]/\Y1 bj 94=true/\A1 bj 94 0=some (3,0)/\A1 bj 94 1=some (3,1)/\A1 bj 94 2=some (4,2)/\A1 bj 94 3=some (4,3)/\bj.cellsOf 97=1/\bj.bytesOf 97=24/\CC bj 97=some [.nil]/\Y1 bj 97=true:=by and_intros<;>kernel_rfl
@[simp] theorem A8Q(cs:List V):BN bj 97 cs=cs[0]?:=by kernel_rfl
@[simp] theorem A8R(cs:List V):BN bj 99 cs=if 2<=cs.length then some (.agg (cs.take 2)) else none:=by kernel_rfl
@[simp] theorem A8S(ps:List (Nat×V)):CU bj 99 ps=if (ps.all fun p=>BE p.2)=true then mH .agg (DA (fun i=>[(0,1),(1,1)][i]?) [.int .i64 0,.int .i64 0] ps) else none:=EI (by kernel_rfl) Tryz.underlying99 (by kernel_rfl) (by kernel_rfl) ps
@[simp] theorem AZ1(cs:List V):BN bj 120 cs=cs[0]?:=by kernel_rfl
@[simp] theorem BEO:BU bj 97=(some (none,4))/\DX bj 97=true/\bj.cellsOf 99=2/\bj.bytesOf 99=16/\CC bj 99=some [.int .i64 0,.int .i64 0]/\Y1 bj 99=true/\A1 bj 99 0=some (3,0)/\A1 bj 99 1=some (3,1)/\bj.cellsOf 120=1/\CC bj 120=some [.nil]/\BU bj 120=(some (none,153))/\DX bj 120=true:=by and_intros<;>kernel_rfl
@[simp] theorem AZ2(cs:List V):BN bj 130 cs=cs[0]?:=by kernel_rfl
@[simp] theorem AZ3(ps:List (Nat×V)):CU bj 135 ps=if (ps.all fun p=>BE p.2)=true then mH .agg (DA (fun i=>[(0,1),(1,1)][i]?) [.int .i64 0,.int .i64 0] ps) else none:=EI (by kernel_rfl) Tryz.underlying135 (by kernel_rfl) (by kernel_rfl) ps
@[simp] theorem AZ4:bj.cellsOf 130=1/\CC bj 130=some [(.raw (.pointer none))]/\bj.cellsOf 135=2/\bj.bytesOf 135=16/\CC bj 135=some [.int .i64 0,.int .i64 0]/\Y1 bj 135=true/\A1 bj 135 0=some (3,0)/\A1 bj 135 1=some (3,1)/\bj.cellsOf 137=1/\bj.bytesOf 137=24/\CC bj 137=some [.nil]/\Y1 bj 137=true:=by and_intros<;>kernel_rfl
@[simp] theorem AZ5(cs:List V):BN bj 137 cs=cs[0]?:=by kernel_rfl
@[simp] theorem AZ6(cs:List V):BN bj 139 cs=if 3<=cs.length then some (.agg (cs.take 3)) else none:=by kernel_rfl
@[simp] theorem A8T:BU bj 137=(some (none,139))/\bj.cellsOf 139=3/\bj.bytesOf 139=24/\CC bj 139=some [.int .i64 0,.int .i64 0,.int .i64 0]/\Y1 bj 139=true/\A1 bj 139 0=some (3,0)/\A1 bj 139 1=some (3,1)/\A1 bj 139 2=some (3,2)/\bj.cellsOf 151=2/\bj.bytesOf 151=16/\CC bj 151=some [.int .i64 0,.int .i64 0]/\Y1 bj 151=true:=by and_intros<;>kernel_rfl
@[simp] theorem AZ7(cs:List V):BN bj 151 cs=if 2<=cs.length then some (.agg (cs.take 2)) else none:=by kernel_rfl
@[simp] theorem AZ8(ps:List (Nat×V)):CU bj 151 ps=if (ps.all fun p=>BE p.2)=true then mH .agg (DA (fun i=>[(0,1),(1,1)][i]?) [.int .i64 0,.int .i64 0] ps) else none:=EI (by kernel_rfl) Tryz.underlying151 (by kernel_rfl) (by kernel_rfl) ps
@[simp] theorem AZ9(cs:List V):BN bj 153 cs=if 4<=cs.length then some (.agg (cs.take 4)) else none:=by kernel_rfl
@[simp] theorem A0A(ps:List (Nat×V)):CU bj 153 ps=if (ps.all fun p=>BE p.2)=true then mH .agg (DA (fun i=>[(0,2),(2,2)][i]?) [.int .i64 0,.int .i64 0,.int .i64 0,.int .i64 0] ps) else none:=EI (by kernel_rfl) Tryz.underlying153 (by kernel_rfl) (by kernel_rfl) ps
@[simp] theorem A0B(cs:List V):BN bj 155 cs=if 3<=cs.length then some (.agg (cs.take 3)) else none:=by kernel_rfl
@[simp] theorem A0C:A1 bj 151 0=some (3,0)/\A1 bj 151 1=some (3,1)/\bj.cellsOf 153=4/\bj.bytesOf 153=32/\CC bj 153=some [.int .i64 0,.int .i64 0,.int .i64 0,.int .i64 0]/\Y1 bj 153=true/\A1 bj 153 0=some (151,0)/\A1 bj 153 1=some (86,2)/\bj.cellsOf 155=3/\CC bj 155=some [.int .i64 0,.int .i64 0,.int .i64 0]/\A1 bj 155 0=some (3,0)/\A1 bj 155 1=some (3,1):=by and_intros<;>kernel_rfl
@[simp] theorem A0D(cs:List V):BN bj 158 cs=if 3<=cs.length then some (.agg (cs.take 3)) else none:=by kernel_rfl
@[simp] theorem A0E(ps:List (Nat×V)):CU bj 158 ps=if (ps.all fun p=>BE p.2)=true then mH .agg (DA (fun i=>[(0,1),(1,1),(2,1)][i]?) [.int .i64 0,.int .i64 0,.bool false] ps) else none:=EI (by kernel_rfl) Tryz.underlying158 (by kernel_rfl) (by kernel_rfl) ps
@[simp] theorem A0F(cs:List V):BN bj 162 cs=if 2<=cs.length then some (.agg (cs.take 2)) else none:=by kernel_rfl
@[simp] theorem A0G(ps:List (Nat×V)):CU bj 162 ps=if (ps.all fun p=>BE p.2)=true then mH .agg (DA (fun i=>[(0,1),(1,1)][i]?) [.int .i64 0,.int .i64 0] ps) else none:=EI (by kernel_rfl) Tryz.underlying162 (by kernel_rfl) (by kernel_rfl) ps
@[simp] theorem A0H:A1 bj 155 2=some (3,2)/\bj.cellsOf 158=3/\CC bj 158=some [.int .i64 0,.int .i64 0,.bool false]/\A1 bj 158 0=some (3,0)/\A1 bj 158 1=some (3,1)/\A1 bj 158 2=some (4,2)/\bj.cellsOf 162=2/\CC bj 162=some [.int .i64 0,.int .i64 0]/\A1 bj 162 0=some (3,0)/\A1 bj 162 1=some (3,1)/\bj.cellsOf 168=1/\CC bj 168=some [(.raw .nilFunc)]:=by and_intros<;>kernel_rfl
@[simp] theorem A0I(cs:List V):BN bj 168 cs=cs[0]?:=by kernel_rfl
@[simp] theorem A0J(cs:List V):BN bj 170 cs=cs[0]?:=by kernel_rfl
@[simp] theorem A0K(cs:List V):BN bj 172 cs=cs[0]?:=by kernel_rfl
@[simp] theorem A0L(cs:List V):BN bj 173 cs=cs[0]?:=by kernel_rfl
@[simp] theorem A0M(ps:List (Nat×V)):CU bj 175 ps=if (ps.all fun p=>BE p.2)=true then mH .agg (DA (fun i=>[(0,12),(12,1),(13,1)][i]?) [.int .i64 0,.int .i64 0,.int .i64 0,.int .i64 0,.nil,.nil,.nil,.nil,.nil,.nil,.nil,.nil,.nil,(.raw (.map none))] ps) else none:=EI (by kernel_rfl) Tryz.underlying175 (by kernel_rfl) (by kernel_rfl) ps
@[simp] theorem A0N(cs:List V):BN bj 177 cs=cs[0]?:=by kernel_rfl
@[simp] theorem A0O:bj.cellsOf 170=1/\BU bj 170=(some (none,151))/\DX bj 170=true/\bj.cellsOf 172=1/\BU bj 172=(some (none,206))/\bj.cellsOf 173=1/\A1 bj 175 0=some (43,0)/\A1 bj 175 1=some (172,12)/\A1 bj 175 2=some (173,13)/\bj.cellsOf 177=1/\CC bj 177=some [(.raw .nilFunc)]/\bj.cellsOf 188=2:=by and_intros<;>kernel_rfl
@[simp] theorem A0P(cs:List V):BN bj 191 cs=cs[0]?:=by kernel_rfl
@[simp] theorem A0Q(cs:List V):BN bj 193 cs=cs[0]?:=by kernel_rfl
@[simp] theorem A0R(cs:List V):BN bj 200 cs=cs[0]?:=by kernel_rfl
@[simp] theorem A0S(cs:List V):BN bj 203 cs=cs[0]?:=by kernel_rfl
@[simp] theorem A0T(cs:List V):BN bj 204 cs=cs[0]?:=by kernel_rfl
@[simp] theorem A0U:A1 bj 188 0=some (3,0)/\A1 bj 188 1=some (3,1)/\BU bj 197=(some (none,204))/\DX bj 197=true/\bj.cellsOf 204=1/\bj.bytesOf 204=24/\CC bj 204=some [.nil]/\Y1 bj 204=true/\BU bj 204=(some (none,209))/\DX bj 204=true/\bj.cellsOf 206=5/\bj.bytesOf 206=40:=by and_intros<;>kernel_rfl
@[simp] theorem A0V(cs:List V):BN bj 206 cs=if 5<=cs.length then some (.agg (cs.take 5)) else none:=by kernel_rfl
@[simp] theorem A0W(cs:List V):BN bj 207 cs=if 2<=cs.length then some (.agg (cs.take 2)) else none:=by kernel_rfl
@[simp] theorem A0X(ps:List (Nat×V)):CU bj 207 ps=if (ps.all fun p=>BE p.2)=true then mH .agg (DA (fun i=>[(0,1),(1,1)][i]?) [.int .i64 0,.int .i64 0] ps) else none:=EI (by kernel_rfl) Tryz.underlying207 (by kernel_rfl) (by kernel_rfl) ps
@[simp] theorem A0Y(cs:List V):BN bj 209 cs=if 5<=cs.length then some (.agg (cs.take 5)) else none:=by kernel_rfl
@[simp] theorem A8U:CC bj 206=some [.int .i64 0,.int .i64 0,.int .i64 0,.int .i64 0,.int .i64 0]/\Y1 bj 206=true/\BU bj 206=(some ((some 5),3))/\bj.cellsOf 207=2/\CC bj 207=some [.int .i64 0,.int .i64 0]/\A1 bj 207 0=some (3,0)/\A1 bj 207 1=some (3,1)/\bj.cellsOf 209=5/\bj.bytesOf 209=40/\CC bj 209=some [.int .i64 0,.int .i64 0,.int .i64 0,.int .i64 0,.int .i64 0]/\A1 bj 209 0=some (3,0)/\A1 bj 209 1=some (207,1):=by and_intros<;>kernel_rfl
@[simp] theorem A0Z(cs:List V):BN bj 221 cs=cs[0]?:=by kernel_rfl
@[simp] theorem A00(cs:List V):BN bj 225 cs=cs[0]?:=by kernel_rfl
@[simp] theorem A01(cs:List V):BN bj 226 cs=cs[0]?:=by kernel_rfl
@[simp] theorem A02(cs:List V):BN bj 233 cs=cs[0]?:=by kernel_rfl
@[simp] theorem A03(cs:List V):BN bj 236 cs=cs[0]?:=by kernel_rfl
@[simp] theorem A04(ps:List (Nat×V)):CU bj 238 ps=if (ps.all fun p=>BE p.2)=true then mH .agg (DA (fun i=>[(0,1)][i]?) [(.raw .nilFunc)] ps) else none:=EI (by kernel_rfl) Tryz.underlying238 (by kernel_rfl) (by kernel_rfl) ps
@[simp] theorem A05(ps:List (Nat×V)):CU bj 250 ps=if (ps.all fun p=>BE p.2)=true then mH .agg (DA (fun i=>[(0,9),(9,1),(10,1),(11,1)][i]?) [.int .i64 0,.int .i64 0,.int .i64 0,.int .i64 0,.nil,.nil,.nil,.nil,.nil,.nil,(.raw (.map none)),(.raw (.map none))] ps) else none:=EI (by kernel_rfl) Tryz.underlying250 (by kernel_rfl) (by kernel_rfl) ps
@[simp] theorem A06:A1 bj 209 2=some (207,3)/\bj.cellsOf 233=1/\CC bj 233=some [(.raw (.pointer none))]/\bj.cellsOf 236=1/\A1 bj 238 0=some (236,0)/\A1 bj 250 0=some (40,0)/\A1 bj 250 1=some (23,9):=by and_intros<;>kernel_rfl
end Go.Proofs.Tryz.Op
