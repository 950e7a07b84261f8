/- What the seat's types come to. No condition. -/
import Derived.Test.YthhdhbalenanjaaGreatChecked
import Derived.Test.YthhdhbalenanjaaGreatSx
open Go.Proofs.Tryz renaming prog->bj
namespace Go.Proofs.Tryz.Op
open Go Go.Pg
theorem EJ{P:Program}{T:TypeId}{z:List V}{fs:Array Field}{tab:List (Nat×Nat)}(hz:CC P T=some z)(hu:P.underlying T=some (.struct fs))(hi:(fs.all fun f=>(P.info? f.type).isSome)=true)(ht:fs.toList.map (fun f=>(f.offset,P.cellsOf f.type))=tab)(ps:List (Nat×V)) :
  CT P T ps=if (ps.all fun p=>BI p.2)=true then lP .agg (DD (fun i=>tab[i]?) z ps) else none:=by
 have e:(fun i:Nat=>(fs[i]?).map fun (f:Field)=>(f.offset,P.cellsOf f.type))=fun i=>tab[i]?:=by funext i;rw[<-ht,List.getElem?_map];simp
 unfold CT
 rw[hz,hu]
 simp only[hi,and_true,e]
 cases DD (fun i=>tab[i]?) z ps<;>rfl
@[simp] theorem AME:bj.cellsOf 3=1:=by kernel_rfl
@[simp] theorem BD5(cs:List V):BR bj 3 cs=cs[0]?:=by kernel_rfl
@[simp] theorem BJD(cs:List V)(o:Nat):MO bj 3 cs o=cs[o]?:=by kernel_rfl
@[simp] theorem AMF:bj.cellsOf 4=1:=by kernel_rfl
@[simp] theorem BD6(cs:List V):BR bj 4 cs=cs[0]?:=by kernel_rfl
@[simp] theorem BJE(cs:List V)(o:Nat):MO bj 4 cs o=cs[o]?:=by kernel_rfl
@[simp] theorem AFM:bj.cellsOf 22=1:=by kernel_rfl
@[simp] theorem A7G(cs:List V):BR bj 22 cs=cs[0]?:=by kernel_rfl
@[simp] theorem nE:bj.cellsOf 23=1:=by kernel_rfl
@[simp] theorem A7H(cs:List V):BR bj 23 cs=cs[0]?:=by kernel_rfl
@[simp] theorem BD7:bj.bytesOf 3=8/\CC bj 3=some [.int .i64 0]/\YV bj 3=true/\bj.bytesOf 4=1/\CC bj 4=some [.bool false]/\YV bj 4=true/\bj.bytesOf 22=24/\CC bj 22=some [.nil]/\YV bj 22=true/\BZ bj 22=(some (none,3))/\D5 bj 22=true/\BZ bj 23=(some (none,22)):=by and_intros<;>kernel_rfl
@[simp] theorem AFN:bj.cellsOf 24=1:=by kernel_rfl
@[simp] theorem A7I(cs:List V):BR bj 24 cs=cs[0]?:=by kernel_rfl
@[simp] theorem AFO:bj.cellsOf 25=1:=by kernel_rfl
@[simp] theorem A7J(cs:List V):BR bj 25 cs=cs[0]?:=by kernel_rfl
@[simp] theorem nF:bj.cellsOf 27=9:=by kernel_rfl
@[simp] theorem A7K(cs:List V):BR bj 27 cs=if 9<=cs.length then some (.agg (cs.take 9)) else none:=by kernel_rfl
@[simp] theorem BJF:D5 bj 23=true/\BZ bj 24=(some (none,59))/\D5 bj 24=true/\BZ bj 25=(some (none,188))/\D5 bj 25=true/\A5 bj 27 0=some (3,0)/\A5 bj 27 1=some (3,1)/\A5 bj 27 2=some (3,2)/\A5 bj 27 3=some (3,3)/\A5 bj 27 4=some (22,4)/\A5 bj 27 5=some (22,5)/\A5 bj 27 6=some (23,6):=by and_intros<;>kernel_rfl
@[simp] theorem AFP:bj.cellsOf 28=1:=by kernel_rfl
@[simp] theorem A7L(cs:List V):BR bj 28 cs=cs[0]?:=by kernel_rfl
@[simp] theorem AFQ:bj.cellsOf 29=1:=by kernel_rfl
@[simp] theorem A7M(cs:List V):BR bj 29 cs=cs[0]?:=by kernel_rfl
@[simp] theorem AFR:bj.cellsOf 31=12:=by kernel_rfl
@[simp] theorem A7N(cs:List V):BR bj 31 cs=if 12<=cs.length then some (.agg (cs.take 12)) else none:=by kernel_rfl
@[simp] theorem A7O:A5 bj 27 7=some (24,7)/\A5 bj 27 8=some (25,8)/\BZ bj 28=(some (none,97))/\D5 bj 28=true/\BZ bj 29=(some (none,57))/\D5 bj 29=true/\A5 bj 31 0=some (27,0)/\A5 bj 31 1=some (23,9)/\A5 bj 31 2=some (28,10)/\A5 bj 31 3=some (29,11)/\bj.cellsOf 37=1/\CC bj 37=some [.nil]:=by and_intros<;>kernel_rfl
@[simp] theorem A7P(cs:List V):BR bj 37 cs=cs[0]?:=by kernel_rfl
@[simp] theorem A7Q(cs:List V):BR bj 38 cs=cs[0]?:=by kernel_rfl
@[simp] theorem A7R(cs:List V):BR bj 40 cs=if 9<=cs.length then some (.agg (cs.take 9)) else none:=by kernel_rfl
@[simp] theorem BD8:BZ bj 37=(some (none,86))/\D5 bj 37=true/\bj.cellsOf 38=1/\BZ bj 38=(some (none,99))/\D5 bj 38=true/\bj.cellsOf 40=9/\CC bj 40=some [.int .i64 0,.int .i64 0,.int .i64 0,.int .i64 0,.nil,.nil,.nil,.nil,.nil]/\A5 bj 40 0=some (3,0)/\A5 bj 40 1=some (3,1)/\A5 bj 40 2=some (3,2)/\A5 bj 40 3=some (3,3)/\A5 bj 40 4=some (22,4):=by and_intros<;>kernel_rfl
@[simp] theorem A7S(ps:List (Nat×V)):CT bj 40 ps=if (ps.all fun p=>BI p.2)=true then lP .agg (DD (fun i=>[(0,1),(1,1),(2,1),(3,1),(4,1),(5,1),(6,1),(7,1),(8,1)][i]?) [.int .i64 0,.int .i64 0,.int .i64 0,.int .i64 0,.nil,.nil,.nil,.nil,.nil] ps) else none:=EJ (by kernel_rfl) Tryz.underlying40 (by kernel_rfl) (by kernel_rfl) ps
@[simp] theorem A7T(cs:List V):BR bj 41 cs=cs[0]?:=by kernel_rfl
@[simp] theorem A7U(cs:List V):BR bj 43 cs=if 12<=cs.length then some (.agg (cs.take 12)) else none:=by kernel_rfl
@[simp] theorem A7V:A5 bj 40 5=some (22,5)/\A5 bj 40 6=some (23,6)/\A5 bj 40 7=some (37,7)/\A5 bj 40 8=some (38,8)/\bj.cellsOf 41=1/\BZ bj 41=(some (none,94))/\D5 bj 41=true/\bj.cellsOf 43=12/\CC bj 43=some [.int .i64 0,.int .i64 0,.int .i64 0,.int .i64 0,.nil,.nil,.nil,.nil,.nil,.nil,.nil,.nil]/\A5 bj 43 0=some (40,0)/\A5 bj 43 1=some (23,9)/\A5 bj 43 2=some (28,10):=by and_intros<;>kernel_rfl
@[simp] theorem A7W(ps:List (Nat×V)):CT bj 43 ps=if (ps.all fun p=>BI p.2)=true then lP .agg (DD (fun i=>[(0,9),(9,1),(10,1),(11,1)][i]?) [.int .i64 0,.int .i64 0,.int .i64 0,.int .i64 0,.nil,.nil,.nil,.nil,.nil,.nil,.nil,.nil] ps) else none:=EJ (by kernel_rfl) Tryz.underlying43 (by kernel_rfl) (by kernel_rfl) ps
@[simp] theorem AFS:bj.cellsOf 57=4:=by kernel_rfl
@[simp] theorem A7X(cs:List V):BR bj 57 cs=if 4<=cs.length then some (.agg (cs.take 4)) else none:=by kernel_rfl
@[simp] theorem A7Y:A5 bj 43 3=some (41,11)/\BZ bj 49=(some (none,135))/\D5 bj 49=true/\BZ bj 52=(some (none,137))/\CC bj 57=some [.int .i64 0,.int .i64 0,.bool false,.bool false]/\A5 bj 57 0=some (3,0)/\A5 bj 57 1=some (3,1)/\A5 bj 57 2=some (4,2)/\A5 bj 57 3=some (4,3)/\bj.cellsOf 59=2/\bj.bytesOf 59=16/\CC bj 59=some [.int .i64 0,.int .i64 0]:=by and_intros<;>kernel_rfl
@[simp] theorem A7Z(cs:List V):BR bj 59 cs=if 2<=cs.length then some (.agg (cs.take 2)) else none:=by kernel_rfl
@[simp] theorem A70(ps:List (Nat×V)):CT bj 59 ps=if (ps.all fun p=>BI p.2)=true then lP .agg (DD (fun i=>[(0,1),(1,1)][i]?) [.int .i64 0,.int .i64 0] ps) else none:=EJ (by kernel_rfl) Tryz.underlying59 (by kernel_rfl) (by kernel_rfl) ps
@[simp] theorem A71(cs:List V):BR bj 86 cs=if 2<=cs.length then some (.agg (cs.take 2)) else none:=by kernel_rfl
@[simp] theorem A72(ps:List (Nat×V)):CT bj 86 ps=if (ps.all fun p=>BI p.2)=true then lP .agg (DD (fun i=>[(0,1),(1,1)][i]?) [.int .i64 0,.int .i64 0] ps) else none:=EJ (by kernel_rfl) Tryz.underlying86 (by kernel_rfl) (by kernel_rfl) ps
@[simp] theorem BJG:YV bj 59=true/\A5 bj 59 0=some (3,0)/\A5 bj 59 1=some (3,1)/\bj.cellsOf 86=2/\bj.bytesOf 86=16/\CC bj 86=some [.int .i64 0,.int .i64 0]/\YV bj 86=true/\A5 bj 86 0=some (3,0)/\A5 bj 86 1=some (3,1)/\bj.cellsOf 94=4/\bj.bytesOf 94=24/\CC bj 94=some [.int .i64 0,.int .i64 0,.bool false,.bool false]:=by and_intros<;>kernel_rfl
@[simp] theorem A73(cs:List V):BR bj 94 cs=if 4<=cs.length then some (.agg (cs.take 4)) else none:=by kernel_rfl
@[simp] theorem A74(ps:List (Nat×V)):CT bj 94 ps=if (ps.all fun p=>BI p.2)=true then lP .agg (DD (fun i=>[(0,1),(1,1),(2,1),(3,1)][i]?) [.int .i64 0,.int .i64 0,.bool false,.bool false] ps) else none:=EJ (by kernel_rfl) Tryz.underlying94 (by kernel_rfl) (by kernel_rfl) ps
@[simp] theorem A75(cs:List V):BR bj 97 cs=cs[0]?:=by kernel_rfl
@[simp] theorem BJH:YV bj 94=true/\A5 bj 94 0=some (3,0)/\A5 bj 94 1=some (3,1)/\A5 bj 94 2=some (4,2)/\A5 bj 94 3=some (4,3)/\bj.cellsOf 97=1/\bj.bytesOf 97=24/\CC bj 97=some [.nil]/\YV bj 97=true/\BZ bj 97=(some (none,4))/\D5 bj 97=true/\bj.cellsOf 99=2:=by and_intros<;>kernel_rfl
@[simp] theorem A76(cs:List V):BR bj 99 cs=if 2<=cs.length then some (.agg (cs.take 2)) else none:=by kernel_rfl
@[simp] theorem A77(ps:List (Nat×V)):CT bj 99 ps=if (ps.all fun p=>BI p.2)=true then lP .agg (DD (fun i=>[(0,1),(1,1)][i]?) [.int .i64 0,.int .i64 0] ps) else none:=EJ (by kernel_rfl) Tryz.underlying99 (by kernel_rfl) (by kernel_rfl) ps
@[simp] theorem AZH(cs:List V):BR bj 100 cs=cs[0]?:=by kernel_rfl
@[simp] theorem AZI(cs:List V):BR bj 120 cs=cs[0]?:=by kernel_rfl
@[simp] theorem A78:bj.bytesOf 99=16/\CC bj 99=some [.int .i64 0,.int .i64 0]/\YV bj 99=true/\A5 bj 99 0=some (3,0)/\A5 bj 99 1=some (3,1)/\bj.cellsOf 100=1/\BZ bj 101=(some (none,100))/\D5 bj 101=true/\bj.cellsOf 120=1/\CC bj 120=some [.nil]/\BZ bj 120=(some (none,153))/\D5 bj 120=true:=by and_intros<;>kernel_rfl
@[simp] theorem AZJ(cs:List V):BR bj 130 cs=cs[0]?:=by kernel_rfl
@[simp] theorem AZK(cs:List V):BR bj 135 cs=if 2<=cs.length then some (.agg (cs.take 2)) else none:=by kernel_rfl
@[simp] theorem AZL(ps:List (Nat×V)):CT bj 135 ps=if (ps.all fun p=>BI p.2)=true then lP .agg (DD (fun i=>[(0,1),(1,1)][i]?) [.int .i64 0,.int .i64 0] ps) else none:=EJ (by kernel_rfl) Tryz.underlying135 (by kernel_rfl) (by kernel_rfl) ps
@[simp] theorem AZM(cs:List V):BR bj 137 cs=cs[0]?:=by kernel_rfl
@[simp] theorem AZN:bj.cellsOf 130=1/\bj.cellsOf 135=2/\bj.bytesOf 135=16/\CC bj 135=some [.int .i64 0,.int .i64 0]/\YV bj 135=true/\A5 bj 135 0=some (3,0)/\A5 bj 135 1=some (3,1)/\bj.cellsOf 137=1/\bj.bytesOf 137=24/\CC bj 137=some [.nil]/\YV bj 137=true/\BZ bj 137=(some (none,139)):=by and_intros<;>kernel_rfl
@[simp] theorem AZO(cs:List V):BR bj 139 cs=if 3<=cs.length then some (.agg (cs.take 3)) else none:=by kernel_rfl
@[simp] theorem AZP(cs:List V):BR bj 151 cs=if 2<=cs.length then some (.agg (cs.take 2)) else none:=by kernel_rfl
@[simp] theorem AZQ:bj.cellsOf 139=3/\bj.bytesOf 139=24/\CC bj 139=some [.int .i64 0,.int .i64 0,.int .i64 0]/\YV bj 139=true/\A5 bj 139 0=some (3,0)/\A5 bj 139 1=some (3,1)/\A5 bj 139 2=some (3,2)/\bj.cellsOf 151=2/\bj.bytesOf 151=16/\CC bj 151=some [.int .i64 0,.int .i64 0]/\YV bj 151=true/\A5 bj 151 0=some (3,0):=by and_intros<;>kernel_rfl
@[simp] theorem AZR(ps:List (Nat×V)):CT bj 151 ps=if (ps.all fun p=>BI p.2)=true then lP .agg (DD (fun i=>[(0,1),(1,1)][i]?) [.int .i64 0,.int .i64 0] ps) else none:=EJ (by kernel_rfl) Tryz.underlying151 (by kernel_rfl) (by kernel_rfl) ps
@[simp] theorem AZS(cs:List V):BR bj 153 cs=if 4<=cs.length then some (.agg (cs.take 4)) else none:=by kernel_rfl
@[simp] theorem AZT(ps:List (Nat×V)):CT bj 153 ps=if (ps.all fun p=>BI p.2)=true then lP .agg (DD (fun i=>[(0,2),(2,2)][i]?) [.int .i64 0,.int .i64 0,.int .i64 0,.int .i64 0] ps) else none:=EJ (by kernel_rfl) Tryz.underlying153 (by kernel_rfl) (by kernel_rfl) ps
@[simp] theorem AZU(cs:List V):BR bj 155 cs=if 3<=cs.length then some (.agg (cs.take 3)) else none:=by kernel_rfl
@[simp] theorem AZV:A5 bj 151 1=some (3,1)/\bj.cellsOf 153=4/\bj.bytesOf 153=32/\CC bj 153=some [.int .i64 0,.int .i64 0,.int .i64 0,.int .i64 0]/\YV bj 153=true/\A5 bj 153 0=some (151,0)/\A5 bj 153 1=some (86,2)/\bj.cellsOf 155=3/\CC bj 155=some [.int .i64 0,.int .i64 0,.int .i64 0]/\A5 bj 155 0=some (3,0)/\A5 bj 155 1=some (3,1)/\A5 bj 155 2=some (3,2):=by and_intros<;>kernel_rfl
@[simp] theorem AZW(cs:List V):BR bj 158 cs=if 3<=cs.length then some (.agg (cs.take 3)) else none:=by kernel_rfl
@[simp] theorem AZX(ps:List (Nat×V)):CT bj 158 ps=if (ps.all fun p=>BI p.2)=true then lP .agg (DD (fun i=>[(0,1),(1,1),(2,1)][i]?) [.int .i64 0,.int .i64 0,.bool false] ps) else none:=EJ (by kernel_rfl) Tryz.underlying158 (by kernel_rfl) (by kernel_rfl) ps
@[simp] theorem AZY(cs:List V):BR bj 162 cs=if 2<=cs.length then some (.agg (cs.take 2)) else none:=by kernel_rfl
@[simp] theorem AZZ(ps:List (Nat×V)):CT bj 162 ps=if (ps.all fun p=>BI p.2)=true then lP .agg (DD (fun i=>[(0,1),(1,1)][i]?) [.int .i64 0,.int .i64 0] ps) else none:=EJ (by kernel_rfl) Tryz.underlying162 (by kernel_rfl) (by kernel_rfl) ps
@[simp] theorem AZ0(cs:List V):BR bj 170 cs=cs[0]?:=by kernel_rfl
@[simp] theorem AZ1:bj.cellsOf 158=3/\CC bj 158=some [.int .i64 0,.int .i64 0,.bool false]/\A5 bj 158 0=some (3,0)/\A5 bj 158 1=some (3,1)/\A5 bj 158 2=some (4,2)/\bj.cellsOf 162=2/\CC bj 162=some [.int .i64 0,.int .i64 0]/\A5 bj 162 0=some (3,0)/\A5 bj 162 1=some (3,1)/\bj.cellsOf 170=1/\BZ bj 170=(some (none,151))/\D5 bj 170=true:=by and_intros<;>kernel_rfl
@[simp] theorem AZ2(cs:List V):BR bj 172 cs=cs[0]?:=by kernel_rfl
@[simp] theorem AZ3(cs:List V):BR bj 173 cs=cs[0]?:=by kernel_rfl
@[simp] theorem AZ4(ps:List (Nat×V)):CT bj 175 ps=if (ps.all fun p=>BI p.2)=true then lP .agg (DD (fun i=>[(0,12),(12,1),(13,1)][i]?) [.int .i64 0,.int .i64 0,.int .i64 0,.int .i64 0,.nil,.nil,.nil,.nil,.nil,.nil,.nil,.nil,.nil,(.raw (.map none))] ps) else none:=EJ (by kernel_rfl) Tryz.underlying175 (by kernel_rfl) (by kernel_rfl) ps
@[simp] theorem AZ5(cs:List V):BR bj 177 cs=cs[0]?:=by kernel_rfl
@[simp] theorem AZ6(cs:List V):BR bj 191 cs=cs[0]?:=by kernel_rfl
@[simp] theorem AZ7(cs:List V):BR bj 193 cs=cs[0]?:=by kernel_rfl
@[simp] theorem AZ8:bj.cellsOf 172=1/\BZ bj 172=(some (none,206))/\bj.cellsOf 173=1/\A5 bj 175 0=some (43,0)/\A5 bj 175 1=some (172,12)/\A5 bj 175 2=some (173,13)/\bj.cellsOf 177=1/\CC bj 177=some [(.raw .nilFunc)]/\bj.cellsOf 188=2/\A5 bj 188 0=some (3,0)/\A5 bj 188 1=some (3,1)/\BZ bj 197=(some (none,204)):=by and_intros<;>kernel_rfl
@[simp] theorem AZ9(cs:List V):BR bj 200 cs=cs[0]?:=by kernel_rfl
@[simp] theorem A0A(cs:List V):BR bj 203 cs=cs[0]?:=by kernel_rfl
@[simp] theorem A0B(cs:List V):BR bj 204 cs=cs[0]?:=by kernel_rfl
@[simp] theorem A0C(cs:List V):BR bj 206 cs=if 5<=cs.length then some (.agg (cs.take 5)) else none:=by kernel_rfl
@[simp] theorem BD9:D5 bj 197=true/\bj.cellsOf 204=1/\bj.bytesOf 204=24/\CC bj 204=some [.nil]/\YV bj 204=true/\BZ bj 204=(some (none,209))/\D5 bj 204=true/\bj.cellsOf 206=5/\bj.bytesOf 206=40/\CC bj 206=some [.int .i64 0,.int .i64 0,.int .i64 0,.int .i64 0,.int .i64 0]/\YV bj 206=true/\BZ bj 206=(some ((some 5),3)):=by and_intros<;>kernel_rfl
@[simp] theorem A0D(cs:List V):BR bj 207 cs=if 2<=cs.length then some (.agg (cs.take 2)) else none:=by kernel_rfl
@[simp] theorem A0E(ps:List (Nat×V)):CT bj 207 ps=if (ps.all fun p=>BI p.2)=true then lP .agg (DD (fun i=>[(0,1),(1,1)][i]?) [.int .i64 0,.int .i64 0] ps) else none:=EJ (by kernel_rfl) Tryz.underlying207 (by kernel_rfl) (by kernel_rfl) ps
@[simp] theorem A0F(cs:List V):BR bj 209 cs=if 5<=cs.length then some (.agg (cs.take 5)) else none:=by kernel_rfl
@[simp] theorem A0G(cs:List V):BR bj 221 cs=cs[0]?:=by kernel_rfl
@[simp] theorem A0H(cs:List V):BR bj 225 cs=cs[0]?:=by kernel_rfl
@[simp] theorem A0I(cs:List V):BR bj 226 cs=cs[0]?:=by kernel_rfl
@[simp] theorem A0J:bj.cellsOf 207=2/\CC bj 207=some [.int .i64 0,.int .i64 0]/\A5 bj 207 0=some (3,0)/\A5 bj 207 1=some (3,1)/\bj.cellsOf 209=5/\bj.bytesOf 209=40/\CC bj 209=some [.int .i64 0,.int .i64 0,.int .i64 0,.int .i64 0,.int .i64 0]/\A5 bj 209 0=some (3,0)/\A5 bj 209 1=some (207,1)/\A5 bj 209 2=some (207,3)/\bj.cellsOf 233=1/\CC bj 233=some [(.raw (.pointer none))]:=by and_intros<;>kernel_rfl
@[simp] theorem A0K(cs:List V):BR bj 233 cs=cs[0]?:=by kernel_rfl
@[simp] theorem A0L(cs:List V):BR bj 236 cs=cs[0]?:=by kernel_rfl
@[simp] theorem A0M(ps:List (Nat×V)):CT bj 238 ps=if (ps.all fun p=>BI p.2)=true then lP .agg (DD (fun i=>[(0,1)][i]?) [(.raw .nilFunc)] ps) else none:=EJ (by kernel_rfl) Tryz.underlying238 (by kernel_rfl) (by kernel_rfl) ps
@[simp] theorem A0N(ps:List (Nat×V)):CT bj 250 ps=if (ps.all fun p=>BI p.2)=true then lP .agg (DD (fun i=>[(0,9),(9,1),(10,1),(11,1)][i]?) [.int .i64 0,.int .i64 0,.int .i64 0,.int .i64 0,.nil,.nil,.nil,.nil,.nil,.nil,(.raw (.map none)),(.raw (.map none))] ps) else none:=EJ (by kernel_rfl) Tryz.underlying250 (by kernel_rfl) (by kernel_rfl) ps
@[simp] theorem A0O:bj.cellsOf 236=1/\A5 bj 238 0=some (236,0)/\A5 bj 250 0=some (40,0)/\A5 bj 250 1=some (23,9):=by and_intros<;>kernel_rfl
end Go.Proofs.Tryz.Op
