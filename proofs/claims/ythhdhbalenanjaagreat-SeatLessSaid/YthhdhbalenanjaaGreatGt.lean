/- What the seat's types come to. No condition. -/
import Derived.Test.YthhdhbalenanjaaGreatChecked
import Derived.Test.YthhdhbalenanjaaGreatSx
open Go.Proofs.Tryz renaming prog->bj
namespace Go.Proofs.Tryz.Op
open Go Go.Pg
theorem FC{P:Program}{T:TypeId}{z:List V}{fs:Array Field}{tab:List (Nat×Nat)}(hz:B9 P T=some z)(hu:P.underlying T=some (.struct fs))(hi:(fs.all fun f=>(P.info? f.type).isSome)=true)(ht:fs.toList.map (fun f=>(f.offset,P.cellsOf f.type))=tab)(ps:List (Nat×V)) :
  C9 P T ps=if (ps.all fun p=>BD p.2)=true then oO .agg (DK (fun i=>tab[i]?) z ps) else none:=by
 have e:(fun i:Nat=>(fs[i]?).map fun (f:Field)=>(f.offset,P.cellsOf f.type))=fun i=>tab[i]?:=by funext i;rw[<-ht,List.getElem?_map];simp
 unfold C9
 rw[hz,hu]
 simp only[hi,and_true,e]
 cases DK (fun i=>tab[i]?) z ps<;>rfl
@[simp] theorem AI8:bj.cellsOf 3=1:=by kernel_rfl
@[simp] theorem A8Y(cs:List V):BM bj 3 cs=cs[0]?:=by kernel_rfl
@[simp] theorem BDW(cs:List V)(o:Nat):MD bj 3 cs o=cs[o]?:=by kernel_rfl
@[simp] theorem AI9:bj.cellsOf 4=1:=by kernel_rfl
@[simp] theorem A8Z(cs:List V):BM bj 4 cs=cs[0]?:=by kernel_rfl
@[simp] theorem BDX(cs:List V)(o:Nat):MD bj 4 cs o=cs[o]?:=by kernel_rfl
@[simp] theorem AC1:bj.cellsOf 22=1:=by kernel_rfl
@[simp] theorem A2F(cs:List V):BM bj 22 cs=cs[0]?:=by kernel_rfl
@[simp] theorem jU:bj.cellsOf 23=1:=by kernel_rfl
@[simp] theorem A2G(cs:List V):BM bj 23 cs=cs[0]?:=by kernel_rfl
@[simp] theorem A80:bj.bytesOf 3=8/\B9 bj 3=some [.int .i64 0]/\cQ bj 3=true/\bj.bytesOf 4=1/\B9 bj 4=some [.bool false]/\cQ bj 4=true/\bj.bytesOf 22=24/\B9 bj 22=some [.nil]/\cQ bj 22=true/\BO bj 22=(some (none,3))/\D0 bj 22=true/\BO bj 23=(some (none,22)):=by and_intros<;>kernel_rfl
@[simp] theorem AC2:bj.cellsOf 24=1:=by kernel_rfl
@[simp] theorem A2H(cs:List V):BM bj 24 cs=cs[0]?:=by kernel_rfl
@[simp] theorem AC3:bj.cellsOf 25=1:=by kernel_rfl
@[simp] theorem A2I(cs:List V):BM bj 25 cs=cs[0]?:=by kernel_rfl
@[simp] theorem jV:bj.cellsOf 27=9:=by kernel_rfl
@[simp] theorem A2J(cs:List V):BM bj 27 cs=if 9<=cs.length then some (.agg (cs.take 9)) else none:=by kernel_rfl
@[simp] theorem BDY:D0 bj 23=true/\BO bj 24=(some (none,59))/\D0 bj 24=true/\BO bj 25=(some (none,188))/\D0 bj 25=true/\A3 bj 27 0=some (3,0)/\A3 bj 27 1=some (3,1)/\A3 bj 27 2=some (3,2)/\A3 bj 27 3=some (3,3)/\A3 bj 27 4=some (22,4)/\A3 bj 27 5=some (22,5)/\A3 bj 27 6=some (23,6):=by and_intros<;>kernel_rfl
@[simp] theorem AC4:bj.cellsOf 28=1:=by kernel_rfl
@[simp] theorem A2K(cs:List V):BM bj 28 cs=cs[0]?:=by kernel_rfl
@[simp] theorem AC5:bj.cellsOf 29=1:=by kernel_rfl
@[simp] theorem A2L(cs:List V):BM bj 29 cs=cs[0]?:=by kernel_rfl
@[simp] theorem AC6:bj.cellsOf 31=12:=by kernel_rfl
@[simp] theorem A2M(cs:List V):BM bj 31 cs=if 12<=cs.length then some (.agg (cs.take 12)) else none:=by kernel_rfl
@[simp] theorem A2N:A3 bj 27 7=some (24,7)/\A3 bj 27 8=some (25,8)/\BO bj 28=(some (none,97))/\D0 bj 28=true/\BO bj 29=(some (none,57))/\D0 bj 29=true/\B9 bj 31=some [.int .i64 0,.int .i64 0,.int .i64 0,.int .i64 0,.nil,.nil,.nil,.nil,.nil,.nil,.nil,.nil]/\A3 bj 31 0=some (27,0)/\A3 bj 31 1=some (23,9)/\A3 bj 31 2=some (28,10)/\A3 bj 31 3=some (29,11)/\bj.cellsOf 37=1:=by and_intros<;>kernel_rfl
@[simp] theorem A2O(cs:List V):BM bj 37 cs=cs[0]?:=by kernel_rfl
@[simp] theorem A2P(cs:List V):BM bj 38 cs=cs[0]?:=by kernel_rfl
@[simp] theorem A2Q(cs:List V):BM bj 40 cs=if 9<=cs.length then some (.agg (cs.take 9)) else none:=by kernel_rfl
@[simp] theorem A81:B9 bj 37=some [.nil]/\BO bj 37=(some (none,86))/\D0 bj 37=true/\bj.cellsOf 38=1/\BO bj 38=(some (none,99))/\D0 bj 38=true/\bj.cellsOf 40=9/\B9 bj 40=some [.int .i64 0,.int .i64 0,.int .i64 0,.int .i64 0,.nil,.nil,.nil,.nil,.nil]/\A3 bj 40 0=some (3,0)/\A3 bj 40 1=some (3,1)/\A3 bj 40 2=some (3,2)/\A3 bj 40 3=some (3,3):=by and_intros<;>kernel_rfl
@[simp] theorem A2R(ps:List (Nat×V)):C9 bj 40 ps=if (ps.all fun p=>BD p.2)=true then oO .agg (DK (fun i=>[(0,1),(1,1),(2,1),(3,1),(4,1),(5,1),(6,1),(7,1),(8,1)][i]?) [.int .i64 0,.int .i64 0,.int .i64 0,.int .i64 0,.nil,.nil,.nil,.nil,.nil] ps) else none:=FC (by kernel_rfl) Tryz.underlying40 (by kernel_rfl) (by kernel_rfl) ps
@[simp] theorem A2S(cs:List V):BM bj 41 cs=cs[0]?:=by kernel_rfl
@[simp] theorem A2T(cs:List V):BM bj 43 cs=if 12<=cs.length then some (.agg (cs.take 12)) else none:=by kernel_rfl
@[simp] theorem A2U:A3 bj 40 4=some (22,4)/\A3 bj 40 5=some (22,5)/\A3 bj 40 6=some (23,6)/\A3 bj 40 7=some (37,7)/\A3 bj 40 8=some (38,8)/\bj.cellsOf 41=1/\BO bj 41=(some (none,94))/\D0 bj 41=true/\bj.cellsOf 43=12/\B9 bj 43=some [.int .i64 0,.int .i64 0,.int .i64 0,.int .i64 0,.nil,.nil,.nil,.nil,.nil,.nil,.nil,.nil]/\A3 bj 43 0=some (40,0)/\A3 bj 43 1=some (23,9):=by and_intros<;>kernel_rfl
@[simp] theorem A2V(ps:List (Nat×V)):C9 bj 43 ps=if (ps.all fun p=>BD p.2)=true then oO .agg (DK (fun i=>[(0,9),(9,1),(10,1),(11,1)][i]?) [.int .i64 0,.int .i64 0,.int .i64 0,.int .i64 0,.nil,.nil,.nil,.nil,.nil,.nil,.nil,.nil] ps) else none:=FC (by kernel_rfl) Tryz.underlying43 (by kernel_rfl) (by kernel_rfl) ps
@[simp] theorem AC7:bj.cellsOf 57=4:=by kernel_rfl
@[simp] theorem A2W(cs:List V):BM bj 57 cs=if 4<=cs.length then some (.agg (cs.take 4)) else none:=by kernel_rfl
@[simp] theorem A2X(cs:List V):BM bj 59 cs=if 2<=cs.length then some (.agg (cs.take 2)) else none:=by kernel_rfl
@[simp] theorem A2Y:A3 bj 43 2=some (28,10)/\A3 bj 43 3=some (41,11)/\bj.bytesOf 57=24/\B9 bj 57=some [.int .i64 0,.int .i64 0,.bool false,.bool false]/\cQ bj 57=true/\A3 bj 57 0=some (3,0)/\A3 bj 57 1=some (3,1)/\A3 bj 57 2=some (4,2)/\A3 bj 57 3=some (4,3)/\bj.cellsOf 59=2/\A3 bj 59 0=some (3,0)/\A3 bj 59 1=some (3,1):=by and_intros<;>kernel_rfl
@[simp] theorem A2Z(cs:List V):BM bj 86 cs=if 2<=cs.length then some (.agg (cs.take 2)) else none:=by kernel_rfl
@[simp] theorem A20(ps:List (Nat×V)):C9 bj 86 ps=if (ps.all fun p=>BD p.2)=true then oO .agg (DK (fun i=>[(0,1),(1,1)][i]?) [.int .i64 0,.int .i64 0] ps) else none:=FC (by kernel_rfl) Tryz.underlying86 (by kernel_rfl) (by kernel_rfl) ps
@[simp] theorem A21(cs:List V):BM bj 94 cs=if 4<=cs.length then some (.agg (cs.take 4)) else none:=by kernel_rfl
@[simp] theorem A22:bj.cellsOf 86=2/\bj.bytesOf 86=16/\B9 bj 86=some [.int .i64 0,.int .i64 0]/\cQ bj 86=true/\A3 bj 86 0=some (3,0)/\A3 bj 86 1=some (3,1)/\bj.cellsOf 94=4/\bj.bytesOf 94=24/\B9 bj 94=some [.int .i64 0,.int .i64 0,.bool false,.bool false]/\cQ bj 94=true/\A3 bj 94 0=some (3,0)/\A3 bj 94 1=some (3,1):=by and_intros<;>kernel_rfl
@[simp] theorem A23(ps:List (Nat×V)):C9 bj 94 ps=if (ps.all fun p=>BD p.2)=true then oO .agg (DK (fun i=>[(0,1),(1,1),(2,1),(3,1)][i]?) [.int .i64 0,.int .i64 0,.bool false,.bool false] ps) else none:=FC (by kernel_rfl) Tryz.underlying94 (by kernel_rfl) (by kernel_rfl) ps
@[simp] theorem A24(cs:List V):BM bj 97 cs=cs[0]?:=by kernel_rfl
@[simp] theorem A25:A3 bj 94 2=some (4,2)/\A3 bj 94 3=some (4,3)/\bj.cellsOf 97=1/\bj.bytesOf 97=24/\B9 bj 97=some [.nil]/\cQ bj 97=true/\BO bj 97=(some (none,4))/\D0 bj 97=true/\bj.cellsOf 99=2/\bj.bytesOf 99=16/\B9 bj 99=some [.int .i64 0,.int .i64 0]/\cQ bj 99=true:=by and_intros<;>kernel_rfl
@[simp] theorem A26(cs:List V):BM bj 99 cs=if 2<=cs.length then some (.agg (cs.take 2)) else none:=by kernel_rfl
@[simp] theorem A27(ps:List (Nat×V)):C9 bj 99 ps=if (ps.all fun p=>BD p.2)=true then oO .agg (DK (fun i=>[(0,1),(1,1)][i]?) [.int .i64 0,.int .i64 0] ps) else none:=FC (by kernel_rfl) Tryz.underlying99 (by kernel_rfl) (by kernel_rfl) ps
@[simp] theorem AVA(cs:List V):BM bj 120 cs=cs[0]?:=by kernel_rfl
@[simp] theorem AVB(cs:List V):BM bj 130 cs=cs[0]?:=by kernel_rfl
@[simp] theorem A28:A3 bj 99 0=some (3,0)/\A3 bj 99 1=some (3,1)/\bj.cellsOf 120=1/\B9 bj 120=some [.nil]/\BO bj 120=(some (none,153))/\D0 bj 120=true/\bj.cellsOf 130=1/\B9 bj 130=some [(.raw (.pointer none))]/\bj.cellsOf 151=2/\bj.bytesOf 151=16/\B9 bj 151=some [.int .i64 0,.int .i64 0]/\cQ bj 151=true:=by and_intros<;>kernel_rfl
@[simp] theorem AVC(cs:List V):BM bj 151 cs=if 2<=cs.length then some (.agg (cs.take 2)) else none:=by kernel_rfl
@[simp] theorem AVD(ps:List (Nat×V)):C9 bj 151 ps=if (ps.all fun p=>BD p.2)=true then oO .agg (DK (fun i=>[(0,1),(1,1)][i]?) [.int .i64 0,.int .i64 0] ps) else none:=FC (by kernel_rfl) Tryz.underlying151 (by kernel_rfl) (by kernel_rfl) ps
@[simp] theorem AVE(cs:List V):BM bj 153 cs=if 4<=cs.length then some (.agg (cs.take 4)) else none:=by kernel_rfl
@[simp] theorem AVF(ps:List (Nat×V)):C9 bj 153 ps=if (ps.all fun p=>BD p.2)=true then oO .agg (DK (fun i=>[(0,2),(2,2)][i]?) [.int .i64 0,.int .i64 0,.int .i64 0,.int .i64 0] ps) else none:=FC (by kernel_rfl) Tryz.underlying153 (by kernel_rfl) (by kernel_rfl) ps
@[simp] theorem AVG(cs:List V):BM bj 155 cs=if 3<=cs.length then some (.agg (cs.take 3)) else none:=by kernel_rfl
@[simp] theorem AVH:A3 bj 151 0=some (3,0)/\A3 bj 151 1=some (3,1)/\bj.cellsOf 153=4/\bj.bytesOf 153=32/\B9 bj 153=some [.int .i64 0,.int .i64 0,.int .i64 0,.int .i64 0]/\cQ bj 153=true/\A3 bj 153 0=some (151,0)/\A3 bj 153 1=some (86,2)/\bj.cellsOf 155=3/\B9 bj 155=some [.int .i64 0,.int .i64 0,.int .i64 0]/\A3 bj 155 0=some (3,0)/\A3 bj 155 1=some (3,1):=by and_intros<;>kernel_rfl
@[simp] theorem AVI(cs:List V):BM bj 158 cs=if 3<=cs.length then some (.agg (cs.take 3)) else none:=by kernel_rfl
@[simp] theorem AVJ(ps:List (Nat×V)):C9 bj 158 ps=if (ps.all fun p=>BD p.2)=true then oO .agg (DK (fun i=>[(0,1),(1,1),(2,1)][i]?) [.int .i64 0,.int .i64 0,.bool false] ps) else none:=FC (by kernel_rfl) Tryz.underlying158 (by kernel_rfl) (by kernel_rfl) ps
@[simp] theorem AVK(cs:List V):BM bj 168 cs=cs[0]?:=by kernel_rfl
@[simp] theorem AVL(cs:List V):BM bj 170 cs=cs[0]?:=by kernel_rfl
@[simp] theorem AVM:A3 bj 155 2=some (3,2)/\bj.cellsOf 158=3/\B9 bj 158=some [.int .i64 0,.int .i64 0,.bool false]/\A3 bj 158 0=some (3,0)/\A3 bj 158 1=some (3,1)/\A3 bj 158 2=some (4,2)/\bj.cellsOf 168=1/\B9 bj 168=some [(.raw .nilFunc)]/\bj.cellsOf 170=1/\BO bj 170=(some (none,151))/\D0 bj 170=true/\bj.cellsOf 172=1:=by and_intros<;>kernel_rfl
@[simp] theorem AVN(cs:List V):BM bj 172 cs=cs[0]?:=by kernel_rfl
@[simp] theorem AVO(cs:List V):BM bj 173 cs=cs[0]?:=by kernel_rfl
@[simp] theorem AVP(ps:List (Nat×V)):C9 bj 175 ps=if (ps.all fun p=>BD p.2)=true then oO .agg (DK (fun i=>[(0,12),(12,1),(13,1)][i]?) [.int .i64 0,.int .i64 0,.int .i64 0,.int .i64 0,.nil,.nil,.nil,.nil,.nil,.nil,.nil,.nil,.nil,(.raw (.map none))] ps) else none:=FC (by kernel_rfl) Tryz.underlying175 (by kernel_rfl) (by kernel_rfl) ps
@[simp] theorem AVQ(cs:List V):BM bj 177 cs=cs[0]?:=by kernel_rfl
@[simp] theorem AVR(cs:List V):BM bj 191 cs=cs[0]?:=by kernel_rfl
@[simp] theorem AVS(cs:List V):BM bj 193 cs=cs[0]?:=by kernel_rfl
@[simp] theorem A29:BO bj 172=(some (none,206))/\bj.cellsOf 173=1/\A3 bj 175 0=some (43,0)/\A3 bj 175 1=some (172,12)/\A3 bj 175 2=some (173,13)/\bj.cellsOf 177=1/\B9 bj 177=some [(.raw .nilFunc)]/\bj.cellsOf 188=2/\A3 bj 188 0=some (3,0)/\A3 bj 188 1=some (3,1)/\BO bj 197=(some (none,204))/\D0 bj 197=true:=by and_intros<;>kernel_rfl
@[simp] theorem AVT(cs:List V):BM bj 200 cs=cs[0]?:=by kernel_rfl
@[simp] theorem AVU(cs:List V):BM bj 203 cs=cs[0]?:=by kernel_rfl
@[simp] theorem AVV(cs:List V):BM bj 204 cs=cs[0]?:=by kernel_rfl
@[simp] theorem AVW(cs:List V):BM bj 206 cs=if 5<=cs.length then some (.agg (cs.take 5)) else none:=by kernel_rfl
@[simp] theorem AVX:bj.cellsOf 204=1/\bj.bytesOf 204=24/\B9 bj 204=some [.nil]/\cQ bj 204=true/\BO bj 204=(some (none,209))/\D0 bj 204=true/\bj.cellsOf 206=5/\bj.bytesOf 206=40/\B9 bj 206=some [.int .i64 0,.int .i64 0,.int .i64 0,.int .i64 0,.int .i64 0]/\cQ bj 206=true/\BO bj 206=(some ((some 5),3))/\bj.cellsOf 207=2:=by and_intros<;>kernel_rfl
@[simp] theorem AVY(cs:List V):BM bj 207 cs=if 2<=cs.length then some (.agg (cs.take 2)) else none:=by kernel_rfl
@[simp] theorem AVZ(ps:List (Nat×V)):C9 bj 207 ps=if (ps.all fun p=>BD p.2)=true then oO .agg (DK (fun i=>[(0,1),(1,1)][i]?) [.int .i64 0,.int .i64 0] ps) else none:=FC (by kernel_rfl) Tryz.underlying207 (by kernel_rfl) (by kernel_rfl) ps
@[simp] theorem AV0(cs:List V):BM bj 209 cs=if 5<=cs.length then some (.agg (cs.take 5)) else none:=by kernel_rfl
@[simp] theorem AV1(cs:List V):BM bj 221 cs=cs[0]?:=by kernel_rfl
@[simp] theorem AV2(cs:List V):BM bj 225 cs=cs[0]?:=by kernel_rfl
@[simp] theorem AV3(cs:List V):BM bj 226 cs=cs[0]?:=by kernel_rfl
@[simp] theorem AV4(cs:List V):BM bj 233 cs=cs[0]?:=by kernel_rfl
@[simp] theorem A3A:B9 bj 207=some [.int .i64 0,.int .i64 0]/\A3 bj 207 0=some (3,0)/\A3 bj 207 1=some (3,1)/\bj.cellsOf 209=5/\bj.bytesOf 209=40/\B9 bj 209=some [.int .i64 0,.int .i64 0,.int .i64 0,.int .i64 0,.int .i64 0]/\A3 bj 209 0=some (3,0)/\A3 bj 209 1=some (207,1)/\A3 bj 209 2=some (207,3)/\bj.cellsOf 233=1/\B9 bj 233=some [(.raw (.pointer none))]/\bj.cellsOf 236=1:=by and_intros<;>kernel_rfl
@[simp] theorem AV5(cs:List V):BM bj 236 cs=cs[0]?:=by kernel_rfl
@[simp] theorem AV6(ps:List (Nat×V)):C9 bj 238 ps=if (ps.all fun p=>BD p.2)=true then oO .agg (DK (fun i=>[(0,1)][i]?) [(.raw .nilFunc)] ps) else none:=FC (by kernel_rfl) Tryz.underlying238 (by kernel_rfl) (by kernel_rfl) ps
@[simp] theorem AV7(ps:List (Nat×V)):C9 bj 250 ps=if (ps.all fun p=>BD p.2)=true then oO .agg (DK (fun i=>[(0,9),(9,1),(10,1),(11,1)][i]?) [.int .i64 0,.int .i64 0,.int .i64 0,.int .i64 0,.nil,.nil,.nil,.nil,.nil,.nil,(.raw (.map none)),(.raw (.map none))] ps) else none:=FC (by kernel_rfl) Tryz.underlying250 (by kernel_rfl) (by kernel_rfl) ps
@[simp] theorem AV8:A3 bj 238 0=some (236,0)/\A3 bj 250 0=some (40,0)/\A3 bj 250 1=some (23,9):=by and_intros<;>kernel_rfl
end Go.Proofs.Tryz.Op
