/- Contract of the reference: Bounds. No condition but a valid beach. -/
import Derived.Test.YthhdhbalenanjaaGreatEa
set_option maxRecDepth 100000
set_option linter.unusedSimpArgs false
open Go Go.Pg Go.Proofs Go.Wind
namespace Go.Proofs.Tryz.Op
section
variable {b:AK}{P:List (List Int)}
theorem mE{α:Type}(f:α->Int){T:List α}{j:Nat}(hj:j<T.length)(z:Int×Int):DC z ((T.take (j+1)).map f)=(min (DC z ((T.take j).map f)).1 (f T[j]),max (DC z ((T.take j).map f)).2 (f T[j])):=by rw[List.take_succ_eq_append_getElem hj,List.map_append,List.map_cons,List.map_nil];unfold DC;rw[List.foldl_append];rfl
theorem AOX(hb:Valid b)(hp:FC b P)(s1 s2:Nat)(h1:s1<b.rows.toNat)(h2:s2<b.places.toNat)(T:List (List Int))(hT:∀t∈T,A1 t b.winds=true)(hTl:T.length<=5000)(X8 X9:AX):∀(d j c:Nat),j+d=T.length->7<c->∃c',7<c'/\∀n k,d<k->A8 (AE Tryz.prog ann kn (n+1800) 47) Z3 (ann 47 (BU Z3)) k ⟨c,[(1,true,.list false (T.map AV)),(2,true,FV P),(4,true,.ptr 0 4 0 0),(7,true,.ptr 0 7 1 0),(8,true,.ptr 0 8 2 0),(9,true,.ptr 0 9 3 0),(10,true,.ptr 0 10 6 0),(11,true,.ptr 0 11 7 0),(12,true,i j)],⟨[],[(4,0,.box (AC b)),(7,1,.box [i s1,i s2]),(8,2,X8),(9,3,X9),(10,6,.box (FU (DC DD ((T.take j).map fun t=>(CC b P t s1 s2).calm)))),(11,7,.box (FU (DC DD ((T.take j).map fun t=>(CC b P t s1 s2).good))))]⟩⟩ =
  some (.exit 0,⟨c',[(19,true,.bool false),(18,true,i T.length),(17,true,.list false (T.map AV)),(16,true,i T.length),(1,true,.list false (T.map AV)),(2,true,FV P),(4,true,.ptr 0 4 0 0),(7,true,.ptr 0 7 1 0),(8,true,.ptr 0 8 2 0),(9,true,.ptr 0 9 3 0),(10,true,.ptr 0 10 6 0),(11,true,.ptr 0 11 7 0),(12,true,i T.length)],⟨[],[(4,0,.box (AC b)),(7,1,.box [i s1,i s2]),(8,2,X8),(9,3,X9),(10,6,.box (FU (DC DD (T.map fun t=>(CC b P t s1 s2).calm)))),(11,7,.box (FU (DC DD (T.map fun t=>(CC b P t s1 s2).good))))]⟩⟩)
 |0,j,c,hd,hc=>by
  have:j=T.length:=by omega
  subst this;refine⟨c,hc,fun n k hk=>?_⟩;obtain⟨k,rfl⟩:∃k',k=k'+1:=⟨k-1,by omega⟩;rw[AB,List.take_length];simp[AC,FU]
 |d+1,j,c,hd,hc=>by
  have hro:=hb.ro;have hj:j<T.length:=by omega
  have hw:=BM (k:=j) (by omega);have ht:=hT T[j] (List.getElem_mem hj);have qR:=fun n=>AI0 n b hb P hp T[j] ht;rw[AN5 hb hp ht]at qR;have hpl:(U1 b P T[j] b.rows.toNat).length=b.rows.toNat:=by simp[U1]
  have hpne:U1 b P T[j] b.rows.toNat≠[]:=fun h=>by rw[h]at hpl;simp at hpl;omega
  rw[slX hpne]at qR;have hrl:(lE b P T[j] s1).length=b.places.toNat:=by simp[lE]
  have l1:s1<(U1 b P T[j] b.rows.toNat).length:=by omega
  have l2:s2<(lE b P T[j] s1).length:=by omega
  have hpg:(U1 b P T[j] b.rows.toNat)[s1]=lE b P T[j] s1:=by simp[U1]
  have hrg:(lE b P T[j] s1)[s2]=CC b P T[j] s1 s2:=by simp[lE]
  have qw1:=fun n=>vV n (DC DD ((T.take j).map fun t=>(CC b P t s1 s2).calm)) (CC b P T[j] s1 s2).calm;have qw2:=fun n=>vV n (DC DD ((T.take j).map fun t=>(CC b P t s1 s2).good)) (CC b P T[j] s1 s2).good;obtain⟨c',hc',ih⟩:=AOX hb hp s1 s2 h1 h2 T hT hTl X8 X9 d (j+1) (c+1+1+1) (by omega) (by omega);rw[mE (fun t=>(CC b P t s1 s2).calm) hj,mE (fun t=>(CC b P t s1 s2).good) hj]at ih;generalize DC DD (T.map fun t=>(CC b P t s1 s2).calm)=RC at ih|-;generalize DC DD (T.map fun t=>(CC b P t s1 s2).good)=RG at ih|-;generalize DC DD ((T.take j).map fun t=>(CC b P t s1 s2).calm)=C at ih qw1|-;generalize DC DD ((T.take j).map fun t=>(CC b P t s1 s2).good)=G at ih qw2|-;generalize U1 b P T[j] b.rows.toNat=A at *;generalize lE b P T[j] s1=B at *;generalize CC b P T[j] s1 s2=x at *;refine⟨c',hc',fun n k hk=>?_⟩;obtain⟨k,rfl⟩:∃k',k=k'+1:=⟨k-1,by omega⟩;have ih:=ih n k (by omega);have g1:6<c+1+1+1:=by omega
  have g2:7<c+1+1+1:=by omega
  rw[AB];simp only[AC,FU]at qR qw1 qw2 ih|-;simp at ih;simp[hj,hw,AV,MH,F6,qR,qw1,qw2,l1,l2,hpg,hrg,g1,g2,ih]
theorem ADO(n:Nat)(hb:Valid b)(hp:FC b P)(s1 s2:Nat)(h1:s1<b.rows.toNat)(h2:s2<b.places.toNat)(T:List (List Int))(hT:∀t∈T,A1 t b.winds=true)(hTl:T.length<=1100):AY Tryz.prog kn (AE Tryz.prog ann kn (n+3300)) 87 [.agg (AC b),.list false (T.map AV),FV P,.agg [i s1,i s2]]=some (.tup [.agg (FU (DC DD (T.map fun t=>(CC b P t s1 s2).calm))),.agg (FU (DC DD (T.map fun t=>(CC b P t s1 s2).good)))]):=by
 rw[AN rfl,AM Tryz.func87 b87 rfl (by simp[AC])];have qE:=fun n=>AR7 n;obtain⟨c',hc',q⟩:=AOX hb hp s1 s2 h1 h2 T hT (by omega) (.box [i 0,i 0]) (.box [i 0,i 0]) T.length 0 8 (by omega) (by omega);have q:=fun n k=>q n (k+1200) (by omega);rw[List.take_zero,List.map_nil,List.map_nil]at q;have e0:DC DD []=DD:=rfl;rw[e0]at q;generalize DC DD (T.map fun t=>(CC b P t s1 s2).calm)=RC at q|-;generalize DC DD (T.map fun t=>(CC b P t s1 s2).good)=RG at q|-;simp only[AC,FU]at q qE|-;simp at q;have g1:2<c':=by omega
 have g2:3<c':=by omega
 simp[c87,AF,qE,q,g1,g2,KK,EY,CD,B6,show Nat.beq 2 1=false from rfl]
end
end Go.Proofs.Tryz.Op
