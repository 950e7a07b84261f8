/- Contract of the reference: Bounds. No condition but a valid beach. -/
import Derived.Test.YthhdhbalenanjaaGreatEa
set_option maxRecDepth 100000
set_option linter.unusedSimpArgs false
open Go Go.Pg Go.Proofs Go.Wind
namespace Go.Proofs.Tryz.Op
section
variable {b:AK}{P:List (List Int)}
theorem nJ{α:Type}(f:α->Int){T:List α}{j:Nat}(hj:j<T.length)(z:Int×Int):DM z ((T.take (j+1)).map f)=(min (DM z ((T.take j).map f)).1 (f T[j]),max (DM z ((T.take j).map f)).2 (f T[j])):=by rw[List.take_succ_eq_append_getElem hj,List.map_append,List.map_cons,List.map_nil];unfold DM;rw[List.foldl_append];rfl
theorem AP5(hb:Valid b)(hp:FL b P)(s1 s2:Nat)(h1:s1<b.rows.toNat)(h2:s2<b.places.toNat)(T:List (List Int))(hT:∀t∈T,A2 t b.winds=true)(hTl:T.length<=5000)(X8 X9:A0):∀(d j c:Nat),j+d=T.length->7<c->∃c',7<c'/\∀n k,d<k->A9 (AE Tryz.prog ann kn (n+1800) 47) aR (ann 47 (BV aR)) k ⟨c,[(1,true,.list false (T.map AY)),(2,true,FI P),(4,true,.ptr 0 4 0 0),(7,true,.ptr 0 7 1 0),(8,true,.ptr 0 8 2 0),(9,true,.ptr 0 9 3 0),(10,true,.ptr 0 10 6 0),(11,true,.ptr 0 11 7 0),(12,true,i j)],⟨[],[(4,0,.box (AC b)),(7,1,.box [i s1,i s2]),(8,2,X8),(9,3,X9),(10,6,.box (F0 (DM DN ((T.take j).map fun t=>(CG b P t s1 s2).calm)))),(11,7,.box (F0 (DM DN ((T.take j).map fun t=>(CG b P t s1 s2).good))))]⟩⟩ =
  some (.exit 0,⟨c',[(19,true,.bool false),(18,true,i T.length),(17,true,.list false (T.map AY)),(16,true,i T.length),(1,true,.list false (T.map AY)),(2,true,FI P),(4,true,.ptr 0 4 0 0),(7,true,.ptr 0 7 1 0),(8,true,.ptr 0 8 2 0),(9,true,.ptr 0 9 3 0),(10,true,.ptr 0 10 6 0),(11,true,.ptr 0 11 7 0),(12,true,i T.length)],⟨[],[(4,0,.box (AC b)),(7,1,.box [i s1,i s2]),(8,2,X8),(9,3,X9),(10,6,.box (F0 (DM DN (T.map fun t=>(CG b P t s1 s2).calm)))),(11,7,.box (F0 (DM DN (T.map fun t=>(CG b P t s1 s2).good))))]⟩⟩)
 |0,j,c,hd,hc=>by
  have:j=T.length:=by omega
  subst this;refine⟨c,hc,fun n k hk=>?_⟩;obtain⟨k,rfl⟩:∃k',k=k'+1:=⟨k-1,by omega⟩;rw[AB,List.take_length];simp[AC,F0]
 |d+1,j,c,hd,hc=>by
  have hro:=hb.ro;have hj:j<T.length:=by omega
  have hw:=BH (k:=j) (by omega);have ht:=hT T[j] (List.getElem_mem hj);have qR:=fun n=>AJ5 n b hb P hp T[j] ht;rw[AO9 hb hp ht]at qR;have hpl:(VW b P T[j] b.rows.toNat).length=b.rows.toNat:=by simp[VW]
  have hpne:VW b P T[j] b.rows.toNat≠[]:=fun h=>by rw[h]at hpl;simp at hpl;omega
  rw[slX hpne]at qR;have hrl:(mG b P T[j] s1).length=b.places.toNat:=by simp[mG]
  have l1:s1<(VW b P T[j] b.rows.toNat).length:=by omega
  have l2:s2<(mG b P T[j] s1).length:=by omega
  have hpg:(VW b P T[j] b.rows.toNat)[s1]=mG b P T[j] s1:=by simp[VW]
  have hrg:(mG b P T[j] s1)[s2]=CG b P T[j] s1 s2:=by simp[mG]
  have qw1:=fun n=>xJ n (DM DN ((T.take j).map fun t=>(CG b P t s1 s2).calm)) (CG b P T[j] s1 s2).calm;have qw2:=fun n=>xJ n (DM DN ((T.take j).map fun t=>(CG b P t s1 s2).good)) (CG b P T[j] s1 s2).good;obtain⟨c',hc',ih⟩:=AP5 hb hp s1 s2 h1 h2 T hT hTl X8 X9 d (j+1) (c+1+1+1) (by omega) (by omega);rw[nJ (fun t=>(CG b P t s1 s2).calm) hj,nJ (fun t=>(CG b P t s1 s2).good) hj]at ih;generalize DM DN (T.map fun t=>(CG b P t s1 s2).calm)=RC at ih|-;generalize DM DN (T.map fun t=>(CG b P t s1 s2).good)=RG at ih|-;generalize DM DN ((T.take j).map fun t=>(CG b P t s1 s2).calm)=C at ih qw1|-;generalize DM DN ((T.take j).map fun t=>(CG b P t s1 s2).good)=G at ih qw2|-;generalize VW b P T[j] b.rows.toNat=A at *;generalize mG b P T[j] s1=B at *;generalize CG b P T[j] s1 s2=x at *;refine⟨c',hc',fun n k hk=>?_⟩;obtain⟨k,rfl⟩:∃k',k=k'+1:=⟨k-1,by omega⟩;have ih:=ih n k (by omega);have g1:6<c+1+1+1:=by omega
  have g2:7<c+1+1+1:=by omega
  rw[AB];simp only[AC,F0]at qR qw1 qw2 ih|-;simp at ih;simp[hj,hw,AY,MY,F9,qR,qw1,qw2,l1,l2,hpg,hrg,g1,g2,ih]
theorem AER(n:Nat)(hb:Valid b)(hp:FL b P)(s1 s2:Nat)(h1:s1<b.rows.toNat)(h2:s2<b.places.toNat)(T:List (List Int))(hT:∀t∈T,A2 t b.winds=true)(hTl:T.length<=1100):AZ Tryz.prog kn (AE Tryz.prog ann kn (n+3300)) 87 [.agg (AC b),.list false (T.map AY),FI P,.agg [i s1,i s2]]=some (.tup [.agg (F0 (DM DN (T.map fun t=>(CG b P t s1 s2).calm))),.agg (F0 (DM DN (T.map fun t=>(CG b P t s1 s2).good)))]):=by
 rw[AN rfl,AO Tryz.func87 b87 rfl (by simp[AC])];have qE:=fun n=>ATI n;obtain⟨c',hc',q⟩:=AP5 hb hp s1 s2 h1 h2 T hT (by omega) (.box [i 0,i 0]) (.box [i 0,i 0]) T.length 0 8 (by omega) (by omega);have q:=fun n k=>q n (k+1200) (by omega);rw[List.take_zero,List.map_nil,List.map_nil]at q;have e0:DM DN []=DN:=rfl;rw[e0]at q;generalize DM DN (T.map fun t=>(CG b P t s1 s2).calm)=RC at q|-;generalize DM DN (T.map fun t=>(CG b P t s1 s2).good)=RG at q|-;simp only[AC,F0]at q qE|-;simp at q;have g1:2<c':=by omega
 have g2:3<c':=by omega
 simp[c87,AF,qE,q,g1,g2,FU,C4,BR,BG,show Nat.beq 2 1=false from rfl]
end
end Go.Proofs.Tryz.Op
