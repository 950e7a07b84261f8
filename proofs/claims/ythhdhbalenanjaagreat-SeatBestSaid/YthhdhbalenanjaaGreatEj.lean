/- Contract of the reference: Bounds. No condition but a valid beach. -/
import Derived.Test.YthhdhbalenanjaaGreatEa
set_option maxRecDepth 100000
set_option linter.unusedSimpArgs false
open Go Go.Pg Go.Proofs Go.Wind
namespace Go.Proofs.Tryz.Op
section
variable {b:AL}{P:List (List Int)}
theorem nD{α:Type}(f:α->Int){T:List α}{j:Nat}(hj:j<T.length)(z:Int×Int):DN z ((T.take (j+1)).map f)=(min (DN z ((T.take j).map f)).1 (f T[j]),max (DN z ((T.take j).map f)).2 (f T[j])):=by rw[List.take_succ_eq_append_getElem hj,List.map_append,List.map_cons,List.map_nil];unfold DN;rw[List.foldl_append];rfl
theorem APP(hb:Valid b)(hp:FL b P)(s1 s2:Nat)(h1:s1<b.rows.toNat)(h2:s2<b.places.toNat)(T:List (List Int))(hT:∀t∈T,A4 t b.winds=true)(hTl:T.length<=5000)(X8 X9:A1):∀(d j c:Nat),j+d=T.length->7<c->∃c',7<c'/\∀n k,d<k->BA (AE Tryz.prog ann kn (n+1800) 47) aH (ann 47 (BU aH)) k ⟨c,[(1,true,.list false (T.map AZ)),(2,true,FO P),(4,true,.ptr 0 4 0 0),(7,true,.ptr 0 7 1 0),(8,true,.ptr 0 8 2 0),(9,true,.ptr 0 9 3 0),(10,true,.ptr 0 10 6 0),(11,true,.ptr 0 11 7 0),(12,true,i j)],⟨[],[(4,0,.box (AC b)),(7,1,.box [i s1,i s2]),(8,2,X8),(9,3,X9),(10,6,.box (F0 (DN DO ((T.take j).map fun t=>(CG b P t s1 s2).calm)))),(11,7,.box (F0 (DN DO ((T.take j).map fun t=>(CG b P t s1 s2).good))))]⟩⟩ =
  some (.exit 0,⟨c',[(19,true,.bool false),(18,true,i T.length),(17,true,.list false (T.map AZ)),(16,true,i T.length),(1,true,.list false (T.map AZ)),(2,true,FO P),(4,true,.ptr 0 4 0 0),(7,true,.ptr 0 7 1 0),(8,true,.ptr 0 8 2 0),(9,true,.ptr 0 9 3 0),(10,true,.ptr 0 10 6 0),(11,true,.ptr 0 11 7 0),(12,true,i T.length)],⟨[],[(4,0,.box (AC b)),(7,1,.box [i s1,i s2]),(8,2,X8),(9,3,X9),(10,6,.box (F0 (DN DO (T.map fun t=>(CG b P t s1 s2).calm)))),(11,7,.box (F0 (DN DO (T.map fun t=>(CG b P t s1 s2).good))))]⟩⟩)
 |0,j,c,hd,hc=>by
  have:j=T.length:=by omega
  subst this;refine⟨c,hc,fun n k hk=>?_⟩;obtain⟨k,rfl⟩:∃k',k=k'+1:=⟨k-1,by omega⟩;rw[AB,List.take_length];simp[AC,F0]
 |d+1,j,c,hd,hc=>by
  have hro:=hb.ro;have hj:j<T.length:=by omega
  have hw:=BJ (k:=j) (by omega);have ht:=hT T[j] (List.getElem_mem hj);have qR:=fun n=>AJT n b hb P hp T[j] ht;rw[AOV hb hp ht]at qR;have hpl:(VR b P T[j] b.rows.toNat).length=b.rows.toNat:=by simp[VR]
  have hpne:VR b P T[j] b.rows.toNat≠[]:=fun h=>by rw[h]at hpl;simp at hpl;omega
  rw[slX hpne]at qR;have hrl:(lW b P T[j] s1).length=b.places.toNat:=by simp[lW]
  have l1:s1<(VR b P T[j] b.rows.toNat).length:=by omega
  have l2:s2<(lW b P T[j] s1).length:=by omega
  have hpg:(VR b P T[j] b.rows.toNat)[s1]=lW b P T[j] s1:=by simp[VR]
  have hrg:(lW b P T[j] s1)[s2]=CG b P T[j] s1 s2:=by simp[lW]
  have qw1:=fun n=>xD n (DN DO ((T.take j).map fun t=>(CG b P t s1 s2).calm)) (CG b P T[j] s1 s2).calm;have qw2:=fun n=>xD n (DN DO ((T.take j).map fun t=>(CG b P t s1 s2).good)) (CG b P T[j] s1 s2).good;obtain⟨c',hc',ih⟩:=APP hb hp s1 s2 h1 h2 T hT hTl X8 X9 d (j+1) (c+1+1+1) (by omega) (by omega);rw[nD (fun t=>(CG b P t s1 s2).calm) hj,nD (fun t=>(CG b P t s1 s2).good) hj]at ih;generalize DN DO (T.map fun t=>(CG b P t s1 s2).calm)=RC at ih|-;generalize DN DO (T.map fun t=>(CG b P t s1 s2).good)=RG at ih|-;generalize DN DO ((T.take j).map fun t=>(CG b P t s1 s2).calm)=C at ih qw1|-;generalize DN DO ((T.take j).map fun t=>(CG b P t s1 s2).good)=G at ih qw2|-;generalize VR b P T[j] b.rows.toNat=A at *;generalize lW b P T[j] s1=B at *;generalize CG b P T[j] s1 s2=x at *;refine⟨c',hc',fun n k hk=>?_⟩;obtain⟨k,rfl⟩:∃k',k=k'+1:=⟨k-1,by omega⟩;have ih:=ih n k (by omega);have g1:6<c+1+1+1:=by omega
  have g2:7<c+1+1+1:=by omega
  rw[AB];simp only[AC,F0]at qR qw1 qw2 ih|-;simp at ih;simp[hj,hw,AZ,MZ,F9,qR,qw1,qw2,l1,l2,hpg,hrg,g1,g2,ih]
theorem AEJ(n:Nat)(hb:Valid b)(hp:FL b P)(s1 s2:Nat)(h1:s1<b.rows.toNat)(h2:s2<b.places.toNat)(T:List (List Int))(hT:∀t∈T,A4 t b.winds=true)(hTl:T.length<=1100):AY Tryz.prog kn (AE Tryz.prog ann kn (n+3300)) 87 [.agg (AC b),.list false (T.map AZ),FO P,.agg [i s1,i s2]]=some (.tup [.agg (F0 (DN DO (T.map fun t=>(CG b P t s1 s2).calm))),.agg (F0 (DN DO (T.map fun t=>(CG b P t s1 s2).good)))]):=by
 rw[AN rfl,AO Tryz.func87 b87 rfl (by simp[AC])];have qE:=fun n=>AS6 n;obtain⟨c',hc',q⟩:=APP hb hp s1 s2 h1 h2 T hT (by omega) (.box [i 0,i 0]) (.box [i 0,i 0]) T.length 0 8 (by omega) (by omega);have q:=fun n k=>q n (k+1200) (by omega);rw[List.take_zero,List.map_nil,List.map_nil]at q;have e0:DN DO []=DO:=rfl;rw[e0]at q;generalize DN DO (T.map fun t=>(CG b P t s1 s2).calm)=RC at q|-;generalize DN DO (T.map fun t=>(CG b P t s1 s2).good)=RG at q|-;simp only[AC,F0]at q qE|-;simp at q;have g1:2<c':=by omega
 have g2:3<c':=by omega
 simp[c87,AF,qE,q,g1,g2,MP,GF,CI,B7,show Nat.beq 2 1=false from rfl]
end
end Go.Proofs.Tryz.Op
