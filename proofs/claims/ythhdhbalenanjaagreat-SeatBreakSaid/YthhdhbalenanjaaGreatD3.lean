/- Contract of the reference: Allowed. No condition but a valid case, sure hours for each place. -/
import Derived.Test.YthhdhbalenanjaaGreatD2
import Derived.Test.YthhdhbalenanjaaGreatA3
open Go.Proofs.Tryz renaming prog->bk
open List renaming map->bj
set_option maxRecDepth 100000
set_option linter.unusedSimpArgs false
open Go Go.Pg Go.Proofs Go.Wind
namespace Go.Proofs.Tryz.Op
def AYL(ss:List (Int×Int)):List V:=[.list false (ss.map AL)]
def Lis(v:V)(es:List (List (Int×Int))):Prop:=v=.list false (es.map AYL)\/v=.list true (es.map AYL)\/(es=[]/\v=.nil)
section
variable (c:AP)(hc:BZ c)(s:List (List Int))(hs:ABA c s)(G:List (Nat×Int))(hG:G.length<=10)(hf:∀g∈G,g.1<c.fams.length/\1<=g.2/\g.2<=4)(out:List (Int×Int))(hl:out.length<G.length)(ho:∀x∈out,0<=x.2/\x.2<=1000)(rec:List (Int×Int)->List (List (Int×Int)))(M K:Nat)(hM:∀o,(rec o).length<=M)
 (hrec:∀x:Int×Int,0<=x.2->x.2<=1000->∃v,Lis v (rec (out++[x]))/\∀j n,A3 bk kn (AF bk ann kn (n+K+j)) 89 [.agg (AE c),I1 s,.list false (G.map CM),.list false ((out++[x]).map AL)]=some v)
include hc hs hG hf hl ho hM hrec
end
def P5(acc x:Int×Int):Int×Int:=if acc.1<x.1\/(x.1=acc.1/\x.2<acc.2) then x else acc
theorem AYM(n:Nat)(c:AP)(hl:c.beach.breaks.length<=90)(s:Int×Int):A3 bk kn (AF bk ann kn (n+300)) 59 [.agg (AE c),.agg (AL s)]=some (.agg (AE (BD c s))):=by
 rw[AQ rfl,AR Tryz.func59 b59 rfl (by simp[AE,AL,AS,BU,AU])];have ha:∀k,k<=100->B0 bk 59 k [AL s]=true:=fun k hk=>by rw[CC (by simp) (by simp)];simp[maxLen,AL];omega
 have ha0:=ha 0 (by omega);have haL:=ha c.beach.breaks.length (by omega);have hb:B0 bk 59 0 (c.beach.breaks.map AL)=true:=by rw[CC (by simp) (by simp)];simp[maxLen,AL];omega
 have hb0:B0 bk 59 0 []=true:=by kernel_rfl
 have hcw:AE (BD c s)=[i c.beach.last,i c.beach.rows,i c.beach.places,i c.beach.reach,li c.beach.face,li c.beach.sun,I1 c.beach.winds,.list false ((c.beach.breaks++[s]).map AL),.list false (c.beach.notes.map AL),I1 c.plan,.list false (c.chairs.map AS),.list false (c.fams.map AU)]:=rfl;rw[hcw];simp only[AE];cases hB:c.beach.breaks with
 |nil=>
  simp[AL]at ha0
  simp[c59,AD,AL,AS,BU,AU,ha0,hb0,IE,B8,DF,BO,GN,E7]
  done
 |cons b bs=>
  rw[hB]at haL hb
  simp[AL]at haL hb
  simp[c59,AD,AL,AS,BU,AU,haL,hb,IE,B8,DF,BO,GN,E7]
  done
@[simp] theorem A54:JA bk 59=false:=by kernel_rfl
section
variable (σ:Nat->Nat)(δ:Nat)
theorem AHH:bj (V.ren σ δ)∘AM=AM:=funext fun l=>by simp[AM]
theorem AYN:bj (V.ren σ δ)∘BU=BU:=funext fun l=>by simp[BU]
theorem AON:bj (V.ren σ δ)∘AL=AL:=funext fun l=>by simp[AL]
theorem ABB:bj (V.ren σ δ)∘AU=AU:=funext fun l=>by simp[AU]
theorem AOO:bj (V.ren σ δ)∘AW=AW:=funext fun l=>by simp[AW,AHH]
theorem ABC:bj (V.ren σ δ)∘AS=AS:=funext fun l=>by simp[AS,AYN]
end
end Go.Proofs.Tryz.Op
