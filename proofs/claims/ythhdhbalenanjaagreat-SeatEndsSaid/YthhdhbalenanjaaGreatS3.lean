/- Plain law: the ranges and the counts of a seating, over the truths in any order. -/
import Derived.Test.YthhdhbalenanjaaGreatS2
import Derived.Test.YthhdhbalenanjaaGreatI1
import Derived.Test.YthhdhbalenanjaaGreatD1
set_option maxRecDepth 100000
open Go Go.Pg Go.Proofs Go.Wind
namespace Go.Wind
theorem eD{rs:List (Int×Int)}{ns:List Int}{G:Nat}(hr:rs.length=G):∀j,j≤G→CU rs ns j=(List.range G).map fun q=>if q<j then wid (rs.getD q (0,0)) (ns.getD q 0) else rs.getD q (0,0)
 |0,_=>by apply List.ext_getElem (by simp[CU,hr]);intro p h1 h2;have hp:p<rs.length:=h1;simp[CU,List.getElem?_eq_getElem hp]
 |j+1,hj=>by
  have ih:=eD (ns:=ns) hr j (by omega);unfold CU;rw[if_neg (by rw[ih];simp;omega),ih];apply List.ext_getElem (by simp);intro p h1 h2;have hp:p<G:=by simpa using h2
  rw[List.getElem_set];by_cases e:j=p
  ·subst e;rw[if_pos rfl,List.getD_eq_getElem?_getD,List.getElem?_map,List.getElem?_range hp];simp
  ·rw[if_neg e];simp only[List.getElem_map,List.getElem_range];by_cases h:p<j
   ·rw[if_pos h,if_pos (by omega)]
   ·rw[if_neg h,if_neg (by omega)]
theorem aP{ns:List Int}:∀j,CU [] ns j=(List.range j).map fun q=>(ns.getD q 0,ns.getD q 0)
 |0=>rfl
 |j+1=>by have ih:=aP (ns:=ns) j;unfold CU;rw[if_pos (by rw[ih];simp),ih,List.range_succ,List.map_append];rfl
theorem eE{α:Type}{f:α→List Int}{G:Nat}(hG:∀t,(f t).length=G):∀(ts:List α) (rs:List (Int×Int)),rs.length=G→ts.foldl (fun rs t=>CU rs (f t) (f t).length) rs=(List.range G).map fun j=>DJ (rs.getD j (0,0)) (ts.map fun t=>(f t).getD j 0)
 |[],rs,hr=>by apply List.ext_getElem (by simp[hr]);intro p h1 h2;have hp:p<rs.length:=h1;simp[DJ,List.getElem?_eq_getElem hp]
 |t::ts,rs,hr=>by
  have hc:=eD (ns:=f t) hr G (Nat.le_refl _);have hl:(CU rs (f t) (f t).length).length=G:=by rw[hG,hc];simp
  rw[List.foldl_cons,eE hG ts _ hl,hG,hc];apply List.map_congr_left;intro j hj;have hj:j<G:=by simpa using hj
  rw[List.getD_eq_getElem?_getD,List.getElem?_map,List.getElem?_range hj];simp only[Option.map_some,Option.getD_some,if_pos hj];rfl
theorem AEB{α:Type}{f:α→List Int}{G:Nat}(hG:∀t,(f t).length=G){ts:List α}(hne:ts≠[])(hb:∀t∈ts,∀x∈f t,0≤x∧x≤1000):ts.foldl (fun rs t=>CU rs (f t) (f t).length) []=(List.range G).map fun j=>DJ C8 (ts.map fun t=>(f t).getD j 0):=by
 cases ts with
 |nil=>exact absurd rfl hne
 |cons t ts=>
  have hl:(CU [] (f t) (f t).length).length=G:=by rw[hG,aP];simp
  rw[List.foldl_cons,eE hG ts _ hl,hG,aP]
  apply List.map_congr_left
  intro j hj
  have hj:j<G:=by simpa using hj
  rw[List.getD_eq_getElem?_getD,List.getElem?_map,List.getElem?_range hj]
  have hx:(f t).getD j 0∈f t:=by rw[List.getD_eq_getElem?_getD,List.getElem?_eq_getElem (by rw[hG];exact hj)];exact List.getElem_mem _
  have h1:=hb t (by simp) _ hx
  have e:DJ C8 ((t::ts).map fun t=>(f t).getD j 0)=DJ (min C8.1 ((f t).getD j 0),max C8.2 ((f t).getD j 0)) (ts.map fun t=>(f t).getD j 0):=rfl
  rw[e]
  simp only[Option.map_some,Option.getD_some]
  rw[show min C8.1 ((f t).getD j 0)=(f t).getD j 0 by simp only[C8];omega,show max C8.2 ((f t).getD j 0)=(f t).getD j 0 by simp only[C8];omega]
theorem AEC{α:Type}{l m:List α}{f:α→Int}(h:∀x,x∈l↔x∈m)(hne:l≠[])(hf:∀x∈l,0≤f x∧f x≤1000):DJ C8 (l.map f)=DJ C8 (m.map f):=by have e1:=tI (z:=C8.1) (f:=f) (fun x hx=>by have:=hf x hx;simp only[C8];omega) hne;have e2:=tJ (z:=C8.2) (f:=f) (fun x hx=>by have:=hf x hx;simp only[C8];omega) hne;obtain⟨x,hx,hx2⟩:=e1.at';obtain⟨y,hy,hy2⟩:=e2.at';have r1:=AQQ (l:=m) (f:=f) ⟨fun z hz=>e1.le z ((h z).2 hz),x,(h x).1 hx,hx2⟩ ⟨fun z hz=>e2.le z ((h z).2 hz),y,(h y).1 hy,hy2⟩ (fun z hz=>hf z ((h z).2 hz));rw[r1,fE]
end Go.Wind
namespace Go.Proofs.Tryz.Op
def BPB(c:A0)(ss:List (Int×Int))(q:Nat)(t:List Int):Bool:=A4B ((c.fams.map (·.good)).getD q 0) (HY c t) ((BA c ss).getD q ⟨0,0,0,0⟩)
theorem PW(b:AJ)(t:List Int):t∈JG b↔t∈BU b:=by rw[mQ,H1]
theorem rC{c:A0}(hc:D8 c):JG c.beach≠[]:=fun e=>by
 have h:=hc.tr;cases hT:BU c.beach with
 |nil=>exact h hT
 |cons t ts=>
  have:=(PW c.beach t).2 (by rw[hT];simp)
  rw[e]at this
  cases this
theorem AED(H:List (List FW))(x:Sp):JN H x=NT H x.row.toNat x.place.toNat x.size.toNat:=rfl
theorem aQ{c:A0}(hc:D8 c){ss:List (Int×Int)}(hs:EP c ss=true){t:List Int}(ht:t∈JG c.beach):∀x∈E3 c ss t,0≤x∧x≤1000:=fun x hx=>by have hlt:AV t c.beach.winds=true:=JB ((PW _ _).1 ht);have hlw:=BZ hlt;have hl5:=hc.be.hl;obtain⟨o1,o2,o3⟩:=WV hc t (by omega);obtain⟨h1,h2⟩:=GU hc hs;simp only[E3,List.mem_map]at hx;obtain⟨s,hs,rfl⟩:=hx;obtain⟨x1,x2,x3,x4,x5⟩:=h2 s hs;rw[AED];have:=sK (H:=HY c t) (fun l hl x hx=>by have:=o3 l hl x hx;omega) s.row.toNat s.place.toNat s.size.toNat;omega
theorem aR{c:A0}(hc:D8 c){ss:List (Int×Int)}(hs:EP c ss=true):CG c ss=(List.range c.fams.length).map fun q=>DJ C8 ((BU c.beach).map fun t=>(E3 c ss t).getD q 0):=by
 have hsl:(BA c ss).length=c.fams.length:=D0 (GU hc hs).1;have hG:∀t,(E3 c ss t).length=c.fams.length:=fun t=>by simp[E3,hsl]
 have hne:=rC hc;unfold CG;rw[AEB hG hne fun t ht=>aQ hc hs ht];apply List.map_congr_left;intro q hq;have hq:q<c.fams.length:=by simpa using hq
 refine AEC (PW c.beach) hne fun t ht=>aQ hc hs ht _ ?_;rw[List.getD_eq_getElem?_getD,List.getElem?_eq_getElem (by rw[hG];exact hq)];exact List.getElem_mem _
end Go.Proofs.Tryz.Op
