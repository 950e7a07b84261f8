/- What the seat's types come to. No condition. -/
import Derived.Test.YtanlhbmliegjeaaGreatChecked
import Derived.Test.YtanlhbmliegjeaaGreatSx
open Go.Proofs.Tryz renaming prog->bj
namespace Go.Proofs.Tryz.Op
open Go Go.Pg
theorem E6{P:Program}{T:TypeId}{z:List V}{fs:Array Field}{tab:List (Nat×Nat)}(hz:CE P T=some z)(hu:P.underlying T=some (.struct fs))(hi:(fs.all fun f=>(P.info? f.type).isSome)=true)(ht:fs.toList.map (fun f=>(f.offset,P.cellsOf f.type))=tab)(ps:List (Nat×V)) :
  DC P T ps=if (ps.all fun p=>A9 p.2)=true then oT .agg (DM (fun i=>tab[i]?) z ps) else none:=by
 have e:(fun i:Nat=>(fs[i]?).map fun (f:Field)=>(f.offset,P.cellsOf f.type))=fun i=>tab[i]?:=by funext i;rw[<-ht,List.getElem?_map];simp
 unfold DC
 rw[hz,hu]
 simp only[hi,and_true,e]
 cases DM (fun i=>tab[i]?) z ps<;>rfl
@[simp] theorem AHU:bj.cellsOf 3=1:=by kernel_rfl
@[simp] theorem A8S(cs:List V):BN bj 3 cs=cs[0]?:=by kernel_rfl
@[simp] theorem BCT(cs:List V)(o:Nat):KU bj 3 cs o=cs[o]?:=by kernel_rfl
@[simp] theorem AHV:bj.cellsOf 4=1:=by kernel_rfl
@[simp] theorem A8T(cs:List V):BN bj 4 cs=cs[0]?:=by kernel_rfl
@[simp] theorem BCU(cs:List V)(o:Nat):KU bj 4 cs o=cs[o]?:=by kernel_rfl
@[simp] theorem AB3:bj.cellsOf 22=1:=by kernel_rfl
@[simp] theorem A0R(cs:List V):BN bj 22 cs=cs[0]?:=by kernel_rfl
@[simp] theorem jU:bj.cellsOf 23=1:=by kernel_rfl
@[simp] theorem A0S(cs:List V):BN bj 23 cs=cs[0]?:=by kernel_rfl
@[simp] theorem A8U(cs:List V)(o:Nat):KU bj 23 cs o=cs[o]?:=by kernel_rfl
@[simp] theorem A8V:bj.bytesOf 3=8/\CE bj 3=some [.int .i64 0]/\YZ bj 3=true/\bj.bytesOf 4=1/\CE bj 4=some [.bool false]/\YZ bj 4=true/\bj.bytesOf 22=24/\CE bj 22=some [.nil]/\YZ bj 22=true/\BO bj 22=(some (none,3))/\D1 bj 22=true/\BO bj 23=(some (none,22)):=by and_intros<;>kernel_rfl
@[simp] theorem AB4:bj.cellsOf 24=1:=by kernel_rfl
@[simp] theorem A0T(cs:List V):BN bj 24 cs=cs[0]?:=by kernel_rfl
@[simp] theorem AB5:bj.cellsOf 25=1:=by kernel_rfl
@[simp] theorem A0U(cs:List V):BN bj 25 cs=cs[0]?:=by kernel_rfl
@[simp] theorem jV:bj.cellsOf 27=9:=by kernel_rfl
@[simp] theorem A0V(cs:List V):BN bj 27 cs=if 9<=cs.length then some (.agg (cs.take 9)) else none:=by kernel_rfl
@[simp] theorem BCV:D1 bj 23=true/\BO bj 24=(some (none,89))/\D1 bj 24=true/\BO bj 25=(some (none,91))/\D1 bj 25=true/\A5 bj 27 0=some (3,0)/\A5 bj 27 1=some (3,1)/\A5 bj 27 2=some (3,2)/\A5 bj 27 3=some (3,3)/\A5 bj 27 4=some (22,4)/\A5 bj 27 5=some (22,5)/\A5 bj 27 6=some (23,6):=by and_intros<;>kernel_rfl
@[simp] theorem AB6:bj.cellsOf 28=1:=by kernel_rfl
@[simp] theorem A0W(cs:List V):BN bj 28 cs=cs[0]?:=by kernel_rfl
@[simp] theorem AB7:bj.cellsOf 29=1:=by kernel_rfl
@[simp] theorem A0X(cs:List V):BN bj 29 cs=cs[0]?:=by kernel_rfl
@[simp] theorem AB8:bj.cellsOf 31=12:=by kernel_rfl
@[simp] theorem A0Y(cs:List V):BN bj 31 cs=if 12<=cs.length then some (.agg (cs.take 12)) else none:=by kernel_rfl
@[simp] theorem A0Z:A5 bj 27 7=some (24,7)/\A5 bj 27 8=some (25,8)/\BO bj 28=(some (none,63))/\D1 bj 28=true/\BO bj 29=(some (none,68))/\D1 bj 29=true/\A5 bj 31 0=some (27,0)/\A5 bj 31 1=some (23,9)/\A5 bj 31 2=some (28,10)/\A5 bj 31 3=some (29,11)/\bj.cellsOf 36=1/\CE bj 36=some [.nil]:=by and_intros<;>kernel_rfl
@[simp] theorem A00(cs:List V):BN bj 36 cs=cs[0]?:=by kernel_rfl
@[simp] theorem A01(cs:List V):BN bj 40 cs=cs[0]?:=by kernel_rfl
@[simp] theorem A02(cs:List V):BN bj 42 cs=if 9<=cs.length then some (.agg (cs.take 9)) else none:=by kernel_rfl
@[simp] theorem A8W:BO bj 36=(some (none,87))/\D1 bj 36=true/\bj.cellsOf 40=1/\BO bj 40=(some (none,92))/\D1 bj 40=true/\bj.cellsOf 42=9/\CE bj 42=some [.int .i64 0,.int .i64 0,.int .i64 0,.int .i64 0,.nil,.nil,.nil,.nil,.nil]/\A5 bj 42 0=some (3,0)/\A5 bj 42 1=some (3,1)/\A5 bj 42 2=some (3,2)/\A5 bj 42 3=some (3,3)/\A5 bj 42 4=some (22,4):=by and_intros<;>kernel_rfl
@[simp] theorem A03(ps:List (Nat×V)):DC bj 42 ps=if (ps.all fun p=>A9 p.2)=true then oT .agg (DM (fun i=>[(0,1),(1,1),(2,1),(3,1),(4,1),(5,1),(6,1),(7,1),(8,1)][i]?) [.int .i64 0,.int .i64 0,.int .i64 0,.int .i64 0,.nil,.nil,.nil,.nil,.nil] ps) else none:=E6 (by kernel_rfl) Tryz.underlying42 (by kernel_rfl) (by kernel_rfl) ps
@[simp] theorem A04(cs:List V):BN bj 43 cs=cs[0]?:=by kernel_rfl
@[simp] theorem A05(cs:List V):BN bj 45 cs=if 12<=cs.length then some (.agg (cs.take 12)) else none:=by kernel_rfl
@[simp] theorem A06:A5 bj 42 5=some (22,5)/\A5 bj 42 6=some (23,6)/\A5 bj 42 7=some (36,7)/\A5 bj 42 8=some (40,8)/\bj.cellsOf 43=1/\BO bj 43=(some (none,69))/\D1 bj 43=true/\bj.cellsOf 45=12/\CE bj 45=some [.int .i64 0,.int .i64 0,.int .i64 0,.int .i64 0,.nil,.nil,.nil,.nil,.nil,.nil,.nil,.nil]/\A5 bj 45 0=some (42,0)/\A5 bj 45 1=some (23,9)/\A5 bj 45 2=some (28,10):=by and_intros<;>kernel_rfl
@[simp] theorem A07(ps:List (Nat×V)):DC bj 45 ps=if (ps.all fun p=>A9 p.2)=true then oT .agg (DM (fun i=>[(0,9),(9,1),(10,1),(11,1)][i]?) [.int .i64 0,.int .i64 0,.int .i64 0,.int .i64 0,.nil,.nil,.nil,.nil,.nil,.nil,.nil,.nil] ps) else none:=E6 (by kernel_rfl) Tryz.underlying45 (by kernel_rfl) (by kernel_rfl) ps
@[simp] theorem A08(cs:List V):BN bj 49 cs=if 2<=cs.length then some (.agg (cs.take 2)) else none:=by kernel_rfl
@[simp] theorem A09(ps:List (Nat×V)):DC bj 49 ps=if (ps.all fun p=>A9 p.2)=true then oT .agg (DM (fun i=>[(0,1),(1,1)][i]?) [.int .i64 0,.int .i64 0] ps) else none:=E6 (by kernel_rfl) Tryz.underlying49 (by kernel_rfl) (by kernel_rfl) ps
@[simp] theorem A1A(cs:List V):BN bj 58 cs=cs[0]?:=by kernel_rfl
@[simp] theorem A1B:A5 bj 45 3=some (43,11)/\bj.cellsOf 49=2/\CE bj 49=some [.int .i64 0,.int .i64 0]/\A5 bj 49 0=some (3,0)/\A5 bj 49 1=some (3,1)/\BO bj 55=(some (none,58))/\D1 bj 55=true/\bj.cellsOf 58=1/\bj.bytesOf 58=24/\CE bj 58=some [.nil]/\YZ bj 58=true/\BO bj 58=(some (none,60)):=by and_intros<;>kernel_rfl
@[simp] theorem A1C(cs:List V):BN bj 60 cs=if 3<=cs.length then some (.agg (cs.take 3)) else none:=by kernel_rfl
@[simp] theorem A1D(cs:List V):BN bj 63 cs=cs[0]?:=by kernel_rfl
@[simp] theorem BCW:D1 bj 58=true/\bj.cellsOf 60=3/\bj.bytesOf 60=24/\CE bj 60=some [.int .i64 0,.int .i64 0,.int .i64 0]/\A5 bj 60 0=some (3,0)/\A5 bj 60 1=some (3,1)/\A5 bj 60 2=some (3,2)/\bj.cellsOf 63=1/\bj.bytesOf 63=24/\CE bj 63=some [.nil]/\YZ bj 63=true/\BO bj 63=(some (none,4)):=by and_intros<;>kernel_rfl
@[simp] theorem AB9:bj.cellsOf 68=4:=by kernel_rfl
@[simp] theorem A1E(cs:List V):BN bj 68 cs=if 4<=cs.length then some (.agg (cs.take 4)) else none:=by kernel_rfl
@[simp] theorem A1F(cs:List V):BN bj 69 cs=if 4<=cs.length then some (.agg (cs.take 4)) else none:=by kernel_rfl
@[simp] theorem BCX:D1 bj 63=true/\CE bj 68=some [.int .i64 0,.int .i64 0,.bool false,.bool false]/\A5 bj 68 0=some (3,0)/\A5 bj 68 1=some (3,1)/\A5 bj 68 2=some (4,2)/\A5 bj 68 3=some (4,3)/\bj.cellsOf 69=4/\bj.bytesOf 69=24/\CE bj 69=some [.int .i64 0,.int .i64 0,.bool false,.bool false]/\YZ bj 69=true/\A5 bj 69 0=some (3,0)/\A5 bj 69 1=some (3,1):=by and_intros<;>kernel_rfl
@[simp] theorem A1G(ps:List (Nat×V)):DC bj 69 ps=if (ps.all fun p=>A9 p.2)=true then oT .agg (DM (fun i=>[(0,1),(1,1),(2,1),(3,1)][i]?) [.int .i64 0,.int .i64 0,.bool false,.bool false] ps) else none:=E6 (by kernel_rfl) Tryz.underlying69 (by kernel_rfl) (by kernel_rfl) ps
@[simp] theorem A1H(cs:List V):BN bj 70 cs=cs[0]?:=by kernel_rfl
@[simp] theorem A1I(cs:List V):BN bj 74 cs=if 3<=cs.length then some (.agg (cs.take 3)) else none:=by kernel_rfl
@[simp] theorem A1J(ps:List (Nat×V)):DC bj 74 ps=if (ps.all fun p=>A9 p.2)=true then oT .agg (DM (fun i=>[(0,1),(1,1),(2,1)][i]?) [.int .i64 0,.int .i64 0,.bool false] ps) else none:=E6 (by kernel_rfl) Tryz.underlying74 (by kernel_rfl) (by kernel_rfl) ps
@[simp] theorem A1K(cs:List V):BN bj 80 cs=cs[0]?:=by kernel_rfl
@[simp] theorem A1L:A5 bj 69 2=some (4,2)/\A5 bj 69 3=some (4,3)/\bj.cellsOf 70=1/\bj.cellsOf 74=3/\CE bj 74=some [.int .i64 0,.int .i64 0,.bool false]/\A5 bj 74 0=some (3,0)/\A5 bj 74 1=some (3,1)/\A5 bj 74 2=some (4,2)/\bj.cellsOf 80=1/\CE bj 80=some [(.raw (.pointer none))]/\bj.cellsOf 87=2/\bj.bytesOf 87=16:=by and_intros<;>kernel_rfl
@[simp] theorem A1M(cs:List V):BN bj 87 cs=if 2<=cs.length then some (.agg (cs.take 2)) else none:=by kernel_rfl
@[simp] theorem A1N(ps:List (Nat×V)):DC bj 87 ps=if (ps.all fun p=>A9 p.2)=true then oT .agg (DM (fun i=>[(0,1),(1,1)][i]?) [.int .i64 0,.int .i64 0] ps) else none:=E6 (by kernel_rfl) Tryz.underlying87 (by kernel_rfl) (by kernel_rfl) ps
@[simp] theorem A1O(cs:List V):BN bj 89 cs=if 2<=cs.length then some (.agg (cs.take 2)) else none:=by kernel_rfl
@[simp] theorem A8X:CE bj 87=some [.int .i64 0,.int .i64 0]/\YZ bj 87=true/\A5 bj 87 0=some (3,0)/\A5 bj 87 1=some (3,1)/\bj.cellsOf 89=2/\A5 bj 89 0=some (3,0)/\A5 bj 89 1=some (3,1)/\bj.cellsOf 91=2/\A5 bj 91 0=some (3,0)/\A5 bj 91 1=some (3,1)/\bj.cellsOf 92=2/\bj.bytesOf 92=16:=by and_intros<;>kernel_rfl
@[simp] theorem A1P(cs:List V):BN bj 92 cs=if 2<=cs.length then some (.agg (cs.take 2)) else none:=by kernel_rfl
@[simp] theorem A1Q(ps:List (Nat×V)):DC bj 92 ps=if (ps.all fun p=>A9 p.2)=true then oT .agg (DM (fun i=>[(0,1),(1,1)][i]?) [.int .i64 0,.int .i64 0] ps) else none:=E6 (by kernel_rfl) Tryz.underlying92 (by kernel_rfl) (by kernel_rfl) ps
@[simp] theorem A1R(cs:List V):BN bj 94 cs=cs[0]?:=by kernel_rfl
@[simp] theorem A1S(cs:List V):BN bj 99 cs=cs[0]?:=by kernel_rfl
@[simp] theorem AUY(cs:List V):BN bj 107 cs=cs[0]?:=by kernel_rfl
@[simp] theorem AUZ(cs:List V):BN bj 110 cs=cs[0]?:=by kernel_rfl
@[simp] theorem AU0(cs:List V):BN bj 111 cs=cs[0]?:=by kernel_rfl
@[simp] theorem A8Y:CE bj 92=some [.int .i64 0,.int .i64 0]/\YZ bj 92=true/\A5 bj 92 0=some (3,0)/\A5 bj 92 1=some (3,1)/\bj.cellsOf 94=1/\CE bj 94=some [.nil]/\BO bj 94=(some (none,129))/\D1 bj 94=true/\BO bj 104=(some (none,115))/\D1 bj 104=true/\bj.cellsOf 111=1/\bj.cellsOf 112=1:=by and_intros<;>kernel_rfl
@[simp] theorem AU1(cs:List V):BN bj 112 cs=cs[0]?:=by kernel_rfl
@[simp] theorem AU2(ps:List (Nat×V)):DC bj 114 ps=if (ps.all fun p=>A9 p.2)=true then oT .agg (DM (fun i=>[(0,12),(12,1),(13,1)][i]?) [.int .i64 0,.int .i64 0,.int .i64 0,.int .i64 0,.nil,.nil,.nil,.nil,.nil,.nil,.nil,.nil,.nil,(.raw (.map none))] ps) else none:=E6 (by kernel_rfl) Tryz.underlying114 (by kernel_rfl) (by kernel_rfl) ps
@[simp] theorem AU3(cs:List V):BN bj 115 cs=cs[0]?:=by kernel_rfl
@[simp] theorem A1T:BO bj 112=(some (none,117))/\A5 bj 114 0=some (45,0)/\A5 bj 114 1=some (112,12)/\A5 bj 114 2=some (111,13)/\bj.cellsOf 115=1/\bj.bytesOf 115=24/\CE bj 115=some [.nil]/\YZ bj 115=true/\BO bj 115=(some (none,119))/\D1 bj 115=true/\bj.cellsOf 117=5/\bj.bytesOf 117=40:=by and_intros<;>kernel_rfl
@[simp] theorem AU4(cs:List V):BN bj 117 cs=if 5<=cs.length then some (.agg (cs.take 5)) else none:=by kernel_rfl
@[simp] theorem AU5(cs:List V):BN bj 119 cs=if 5<=cs.length then some (.agg (cs.take 5)) else none:=by kernel_rfl
@[simp] theorem AU6(cs:List V):BN bj 123 cs=cs[0]?:=by kernel_rfl
@[simp] theorem A1U:CE bj 117=some [.int .i64 0,.int .i64 0,.int .i64 0,.int .i64 0,.int .i64 0]/\YZ bj 117=true/\BO bj 117=(some ((some 5),3))/\bj.cellsOf 119=5/\bj.bytesOf 119=40/\CE bj 119=some [.int .i64 0,.int .i64 0,.int .i64 0,.int .i64 0,.int .i64 0]/\A5 bj 119 0=some (3,0)/\A5 bj 119 1=some (49,1)/\A5 bj 119 2=some (49,3)/\bj.cellsOf 123=1/\BO bj 123=(some (none,127))/\D1 bj 123=true:=by and_intros<;>kernel_rfl
@[simp] theorem AU7(cs:List V):BN bj 127 cs=if 2<=cs.length then some (.agg (cs.take 2)) else none:=by kernel_rfl
@[simp] theorem AU8(ps:List (Nat×V)):DC bj 127 ps=if (ps.all fun p=>A9 p.2)=true then oT .agg (DM (fun i=>[(0,1),(1,1)][i]?) [.int .i64 0,.int .i64 0] ps) else none:=E6 (by kernel_rfl) Tryz.underlying127 (by kernel_rfl) (by kernel_rfl) ps
@[simp] theorem AU9(cs:List V):BN bj 129 cs=if 4<=cs.length then some (.agg (cs.take 4)) else none:=by kernel_rfl
@[simp] theorem AVA:bj.cellsOf 127=2/\bj.bytesOf 127=16/\CE bj 127=some [.int .i64 0,.int .i64 0]/\YZ bj 127=true/\A5 bj 127 0=some (3,0)/\A5 bj 127 1=some (3,1)/\bj.cellsOf 129=4/\bj.bytesOf 129=32/\CE bj 129=some [.int .i64 0,.int .i64 0,.int .i64 0,.int .i64 0]/\YZ bj 129=true/\A5 bj 129 0=some (127,0)/\A5 bj 129 1=some (87,2):=by and_intros<;>kernel_rfl
@[simp] theorem AVB(ps:List (Nat×V)):DC bj 129 ps=if (ps.all fun p=>A9 p.2)=true then oT .agg (DM (fun i=>[(0,2),(2,2)][i]?) [.int .i64 0,.int .i64 0,.int .i64 0,.int .i64 0] ps) else none:=E6 (by kernel_rfl) Tryz.underlying129 (by kernel_rfl) (by kernel_rfl) ps
@[simp] theorem AVC(ps:List (Nat×V)):DC bj 133 ps=if (ps.all fun p=>A9 p.2)=true then oT .agg (DM (fun i=>[(0,9),(9,1),(10,1),(11,1)][i]?) [.int .i64 0,.int .i64 0,.int .i64 0,.int .i64 0,.nil,.nil,.nil,.nil,.nil,.nil,(.raw (.map none)),(.raw (.map none))] ps) else none:=E6 (by kernel_rfl) Tryz.underlying133 (by kernel_rfl) (by kernel_rfl) ps
@[simp] theorem AVD(cs:List V):BN bj 139 cs=cs[0]?:=by kernel_rfl
@[simp] theorem AVE(cs:List V):BN bj 142 cs=if 3<=cs.length then some (.agg (cs.take 3)) else none:=by kernel_rfl
@[simp] theorem AVF(cs:List V):BN bj 144 cs=cs[0]?:=by kernel_rfl
@[simp] theorem AVG(cs:List V):BN bj 145 cs=cs[0]?:=by kernel_rfl
@[simp] theorem AVH(cs:List V):BN bj 146 cs=cs[0]?:=by kernel_rfl
@[simp] theorem AVI(cs:List V):BN bj 151 cs=cs[0]?:=by kernel_rfl
@[simp] theorem AVJ(ps:List (Nat×V)):DC bj 154 ps=if (ps.all fun p=>A9 p.2)=true then oT .agg (DM (fun i=>[(0,1)][i]?) [(.raw .nilFunc)] ps) else none:=E6 (by kernel_rfl) Tryz.underlying154 (by kernel_rfl) (by kernel_rfl) ps
@[simp] theorem AVK(cs:List V):BN bj 159 cs=cs[0]?:=by kernel_rfl
@[simp] theorem AVL:A5 bj 133 0=some (42,0)/\A5 bj 133 1=some (23,9)/\bj.cellsOf 139=1/\CE bj 139=some [(.raw .nilFunc)]/\bj.cellsOf 142=3/\CE bj 142=some [.int .i64 0,.int .i64 0,.int .i64 0]/\BO bj 142=(some ((some 3),3))/\bj.cellsOf 151=1/\A5 bj 154 0=some (151,0):=by and_intros<;>kernel_rfl
end Go.Proofs.Tryz.Op
