/- Contract of the reference: Allowed. No condition but a valid case, sure hours for each place. -/
import Derived.Test.YthhdhbalenanjaaGreatD2
set_option maxRecDepth 100000
set_option linter.unusedSimpArgs false
open Go Go.Pg Go.Proofs Go.Wind
namespace Go.Proofs.Tryz.Op
def A51(ss:List (Int×Int)):List V:=[.list false (ss.map AJ)]
def Lis(v:V)(es:List (List (Int×Int))):Prop:=v=.list false (es.map A51)\/v=.list true (es.map A51)\/(es=[]/\v=.nil)
section
variable (c:AO)(hc:B7 c)(s:List (List Int))(hs:SE c s)(G:List (Nat×Int))(hG:G.length<=10)(hf:∀g∈G,g.1<c.fams.length/\1<=g.2/\g.2<=4)(out:List (Int×Int))(hl:out.length<G.length)(ho:∀x∈out,0<=x.2/\x.2<=1000)(rec:List (Int×Int)->List (List (Int×Int)))(M K:Nat)(hM:∀o,(rec o).length<=M)
 (hrec:∀x:Int×Int,0<=x.2->x.2<=1000->∃v,Lis v (rec (out++[x]))/\∀j n,A3 Tryz.prog kn (AE Tryz.prog ann kn (n+K+j)) 89 [.agg (AD c),HU s,.list false (G.map A9),.list false ((out++[x]).map AJ)]=some v)
include hc hs hG hf hl ho hM hrec
end
def RN(acc x:Int×Int):Int×Int:=if acc.1<x.1\/(x.1=acc.1/\x.2<acc.2) then x else acc
theorem A52{k:Nat}{x:Int×Int}(h:k<=10000):B5 Tryz.prog 59 k [[i x.1,i x.2]]=true:=by rw[B9 (by simp) (by simp)];simp[maxLen];omega
theorem A53(ss:List (Int×Int))(h1:ss.length<=9):∀(d k c γ:Nat),k+d=ss.length->∃fr c' γ',BJ fr 3=some (true,pv 28 γ' (ss.map AJ))/\∀n m,d<m->BI (AE Tryz.prog ann kn (n+100) 30) aW (ann 30 (BZ aW)) m ⟨c,[(0,true,.list false (ss.map AJ)),(3,true,pv 28 γ ((ss.take k).map AJ)),(4,true,i k)],⟨[],pl 28 γ 59 ((ss.take k).map AJ)⟩⟩ =
  some (.exit 0,⟨c',fr,⟨[],pl 28 γ' 59 (ss.map AJ)⟩⟩)
 |0,k,c,γ,hk=>by
  obtain rfl:k=ss.length:=by omega
  rw[List.take_length];refine⟨?fr,c,γ,?g1,fun n m hm=>?g9⟩;case g9=>
   obtain⟨m,rfl⟩:=qNz m (by omega)
   rw[AB]
   simp
   rfl
  case g1=>simp
 |d+1,k,c,γ,hk=>by
  have hk':k<ss.length:=by omega
  have h9:(k:Int)<9:=by omega
  have hw:=BS (k:=k) (by omega);have hst:(ss.take (k+1)).map AJ=(ss.take k).map AJ++[AJ ss[k]]:=by rw[List.take_succ_eq_append_getElem hk',List.map_append];rfl
  have happ:=A52 (k:=((ss.take k).map AJ).length) (x:=ss[k]) (by rw[List.length_map,List.length_take];omega);obtain⟨fr,c',γ',e1,ih⟩:=A53 ss h1 d (k+1) (c+1) c (by omega);refine⟨fr,c',γ',e1,fun n m hm=>?_⟩;obtain⟨m,rfl⟩:=qNz m (by omega);have ih:=ih n m (by omega);rw[hst]at ih;have hR1:∀e∈(ss.take k).map AJ,e.length=2:=fun e he=>by obtain⟨l,_,rfl⟩:=List.mem_map.1 he;rfl
  generalize (ss.take k).map AJ=R at *;rw[AB];cases R with
  |nil=>simp[AJ,SB]at ih happ;simp[-List.map_map,hk',h9,hw,AJ,SB,happ,ih,A0,DB,GU,EV,BV,B8,BF,FD,EQ]
  |cons r R=>
   have hR2:=hR1 r (by simp)
   have hR3:=eq_true (fun e he=>hR1 e (List.mem_cons_of_mem r he):∀e∈R,e.length=2)
   simp[AJ,SB,-List.map_map]at ih happ
   simp[-List.map_map,hk',h9,hw,AJ,SB,happ,hR2,hR3,ih,A0,DB,GU,EV,BV,B8,BF,FD,EQ]
theorem AT4(n:Nat)(ss:List (Int×Int))(h1:ss.length<=9):A3 Tryz.prog kn (AE Tryz.prog ann kn (n+300)) 40 [.list false (ss.map AJ)]=some (sl (ss.map AJ)):=by rw[AP rfl,AQ Tryz.func40 b40 rfl (by simp[AJ])];obtain⟨fr,c',γ',e1,q⟩:=A53 ss h1 ss.length 0 0 0 (by omega);have q:=fun n m=>q n (m+101) (by omega);rw[List.take_zero]at q;simp at q;simp[c40,AF,q,e1,AJ]
end Go.Proofs.Tryz.Op
