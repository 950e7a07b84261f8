/- Plain law: the ranges and the counts of a seating, over the truths in any order. -/
import Derived.Test.YthhdhbalenanjaaGreatS2
import Derived.Test.YthhdhbalenanjaaGreatI1
import Derived.Test.YthhdhbalenanjaaGreatD1
import Derived.Test.YthhdhbalenanjaaGreatV1
import Derived.Test.YthhdhbalenanjaaGreatEa
import Derived.Test.YthhdhbalenanjaaGreatFz
set_option maxRecDepth 100000
set_option linter.unusedSimpArgs false
open Go Go.Pg Go.Proofs Go.Wind
namespace Go.Wind
theorem eL{rs:List (Int×Int)}{ns:List Int}{G:Nat}(hr:rs.length=G):∀j,j≤G→CV rs ns j=(List.range G).map fun q=>if q<j then wid (rs.getD q (0,0)) (ns.getD q 0) else rs.getD q (0,0)
 |0,_=>by apply List.ext_getElem (by simp[CV,hr]);intro p h1 h2;have hp:p<rs.length:=h1;simp[CV,List.getElem?_eq_getElem hp]
 |j+1,hj=>by
  have ih:=eL (ns:=ns) hr j (by omega);unfold CV;rw[if_neg (by rw[ih];simp;omega),ih];apply List.ext_getElem (by simp);intro p h1 h2;have hp:p<G:=by simpa using h2
  rw[List.getElem_set];by_cases e:j=p
  ·subst e;rw[if_pos rfl,List.getD_eq_getElem?_getD,List.getElem?_map,List.getElem?_range hp];simp
  ·rw[if_neg e];simp only[List.getElem_map,List.getElem_range];by_cases h:p<j
   ·rw[if_pos h,if_pos (by omega)]
   ·rw[if_neg h,if_neg (by omega)]
theorem aY{ns:List Int}:∀j,CV [] ns j=(List.range j).map fun q=>(ns.getD q 0,ns.getD q 0)
 |0=>rfl
 |j+1=>by have ih:=aY (ns:=ns) j;unfold CV;rw[if_pos (by rw[ih];simp),ih,List.range_succ,List.map_append];rfl
theorem eM{α:Type}{f:α→List Int}{G:Nat}(hG:∀t,(f t).length=G):∀(ts:List α) (rs:List (Int×Int)),rs.length=G→ts.foldl (fun rs t=>CV rs (f t) (f t).length) rs=(List.range G).map fun j=>DI (rs.getD j (0,0)) (ts.map fun t=>(f t).getD j 0)
 |[],rs,hr=>by apply List.ext_getElem (by simp[hr]);intro p h1 h2;have hp:p<rs.length:=h1;simp[DI,List.getElem?_eq_getElem hp]
 |t::ts,rs,hr=>by
  have hc:=eL (ns:=f t) hr G (Nat.le_refl _);have hl:(CV rs (f t) (f t).length).length=G:=by rw[hG,hc];simp
  rw[List.foldl_cons,eM hG ts _ hl,hG,hc];apply List.map_congr_left;intro j hj;have hj:j<G:=by simpa using hj
  rw[List.getD_eq_getElem?_getD,List.getElem?_map,List.getElem?_range hj];simp only[Option.map_some,Option.getD_some,if_pos hj];rfl
theorem AES{α:Type}{f:α→List Int}{G:Nat}(hG:∀t,(f t).length=G){ts:List α}(hne:ts≠[])(hb:∀t∈ts,∀x∈f t,0≤x∧x≤1000):ts.foldl (fun rs t=>CV rs (f t) (f t).length) []=(List.range G).map fun j=>DI B6 (ts.map fun t=>(f t).getD j 0):=by
 cases ts with
 |nil=>exact absurd rfl hne
 |cons t ts=>
  have hl:(CV [] (f t) (f t).length).length=G:=by rw[hG,aY];simp
  rw[List.foldl_cons,eM hG ts _ hl,hG,aY]
  apply List.map_congr_left
  intro j hj
  have hj:j<G:=by simpa using hj
  rw[List.getD_eq_getElem?_getD,List.getElem?_map,List.getElem?_range hj]
  have hx:(f t).getD j 0∈f t:=by rw[List.getD_eq_getElem?_getD,List.getElem?_eq_getElem (by rw[hG];exact hj)];exact List.getElem_mem _
  have h1:=hb t (by simp) _ hx
  have e:DI B6 ((t::ts).map fun t=>(f t).getD j 0)=DI (min B6.1 ((f t).getD j 0),max B6.2 ((f t).getD j 0)) (ts.map fun t=>(f t).getD j 0):=rfl
  rw[e]
  simp only[Option.map_some,Option.getD_some]
  rw[show min B6.1 ((f t).getD j 0)=(f t).getD j 0 by simp only[B6];omega,show max B6.2 ((f t).getD j 0)=(f t).getD j 0 by simp only[B6];omega]
theorem AET{α:Type}{l m:List α}{f:α→Int}(h:∀x,x∈l↔x∈m)(hne:l≠[])(hf:∀x∈l,0≤f x∧f x≤1000):DI B6 (l.map f)=DI B6 (m.map f):=by have e1:=tU (z:=B6.1) (f:=f) (fun x hx=>by have:=hf x hx;simp only[B6];omega) hne;have e2:=tV (z:=B6.2) (f:=f) (fun x hx=>by have:=hf x hx;simp only[B6];omega) hne;obtain⟨x,hx,hx2⟩:=e1.at';obtain⟨y,hy,hy2⟩:=e2.at';have r1:=AQ8 (l:=m) (f:=f) ⟨fun z hz=>e1.le z ((h z).2 hz),x,(h x).1 hx,hx2⟩ ⟨fun z hz=>e2.le z ((h z).2 hz),y,(h y).1 hy,hy2⟩ (fun z hz=>hf z ((h z).2 hz));rw[r1,fJ]
theorem nA{b:AJ}:∀(ws:List (List Int)) (p:List Int),(∀l∈ws,l.length≤4)→(O5 b ws p).length≤4 ^ ws.length
 |[],p,_=>by unfold O5;split<;>simp
 |l::ws,p,h=>by
  have hl:=h l (by simp);have ih:=fun q=>nA (b:=b) ws q (fun x hx=>h x (by simp[hx]));simp only[O5];have key:∀xs:List Int,(xs.flatMap fun x=>O5 b ws (p++[x])).length≤xs.length*4 ^ ws.length:=by
   intro xs;induction xs with
   |nil=>simp
   |cons x xs ihx=>
    have:=ih (p++[x])
    rw[List.flatMap_cons,List.length_append,List.length_cons,Nat.add_mul,Nat.one_mul]
    omega
  have k2:=key l;have k3:l.length*4 ^ ws.length≤4*4 ^ ws.length:=Nat.mul_le_mul_right _ hl;rw[List.length_cons,Nat.pow_succ];omega
end Go.Wind
namespace Go.Proofs.Tryz.Op
theorem nB{c:A3}{S:List Sp}{H:List (List EI)}{o:List Int}{G:Nat}(ho:o.length=G):∀k,k≤G→GD c S H o k=(List.range G).map fun q=>if q<k∧iD ((c.fams.map (·.good)).getD q 0) H (S.getD q ⟨0,0,0,0⟩)=true then IntKind.i64.wrap (o.getD q 0+1) else o.getD q 0
 |0,_=>by apply List.ext_getElem (by simp[GD,ho]);intro p h1 h2;have hp:p<o.length:=h1;simp[GD,List.getElem?_eq_getElem hp]
 |k+1,hk=>by
  have ih:=nB (c:=c) (S:=S) (H:=H) ho k (by omega);unfold GD;cases hz:iD ((c.fams.map (·.good)).getD k 0) H (S.getD k ⟨0,0,0,0⟩)with
  |true=>
   rw[if_pos rfl,ih]
   apply List.ext_getElem (by simp)
   intro p h1 h2
   have hp:p<G:=by simpa using h2
   rw[List.getElem_set]
   by_cases e:k=p
   ·subst e;rw[if_pos rfl,List.getD_eq_getElem?_getD,List.getElem?_map,List.getElem?_range hp];simp only[List.getElem_map,List.getElem_range];rw[if_pos ⟨by omega,hz⟩];simp
   ·rw[if_neg e];simp only[List.getElem_map,List.getElem_range];by_cases h:p<k
    ·simp only[h,show p<k+1 by omega,true_and]
    ·simp only[h,show ¬p<k+1 by omega,false_and]
  |false=>
   rw[if_neg (by decide),ih]
   apply List.map_congr_left
   intro q hq
   by_cases e:q=k
   ·subst e;rw[if_neg (by simp),if_neg (by rw[hz];simp)]
   ·by_cases h:q<k
    ·simp only[h,show q<k+1 by omega,true_and]
    ·simp only[h,show ¬q<k+1 by omega,false_and]
def WY(c:A3)(ss:List (Int×Int))(q:Nat)(t:List Int):Bool:=iD ((c.fams.map (·.good)).getD q 0) (E3 c t) ((AY c ss).getD q ⟨0,0,0,0⟩)
theorem nC{c:A3}{ss:List (Int×Int)}:∀(ts:List (List Int)) (o:List Int) (n:Int) (M:Nat),o.length=(AY c ss).length→(∀q,0≤o.getD q 0∧o.getD q 0≤M)→0≤n∧n≤M→ts.length+M≤1000000→ts.foldl (eK c ss) (o,n)=((List.range (AY c ss).length).map fun q=>o.getD q 0+(ts.countP (WY c ss q):Int),n+ts.length)
 |[],o,n,M,ho,hb,hn,hM=>by simp only[List.foldl_nil,List.countP_nil,List.length_nil,Prod.mk.injEq];refine⟨?_,by simp⟩;apply List.ext_getElem (by simp[ho]);intro p h1 h2;simp[List.getElem?_eq_getElem h1]
 |t::ts,o,n,M,ho,hb,hn,hM=>by
  have hl:(t::ts).length=ts.length+1:=rfl;have w1:∀x:Int,0≤x∧x≤M→IntKind.i64.wrap (x+1)=x+1:=fun x hx=>AV (by omega) (by omega);have hc:=nB (c:=c) (S:=AY c ss) (H:=E3 c t) ho (AY c ss).length (Nat.le_refl _);have hg:∀q,(GD c (AY c ss) (E3 c t) o (AY c ss).length).getD q 0=if q<(AY c ss).length∧WY c ss q t=true then o.getD q 0+1 else o.getD q 0:=fun q=>by
   rw[hc,List.getD_eq_getElem?_getD,List.getElem?_map];by_cases hq:q<(AY c ss).length
   ·rw[List.getElem?_range hq];simp only[Option.map_some,Option.getD_some,hq,true_and];rw[w1 _ (hb q)];rfl
   ·rw[List.getElem?_eq_none (by simpa using hq)];simp only[hq,false_and,if_false,Option.map_none,Option.getD_none];rw[List.getD_eq_getElem?_getD,List.getElem?_eq_none (by omega)];rfl
  have ih:=nC (c:=c) (ss:=ss) ts (GD c (AY c ss) (E3 c t) o (AY c ss).length) (n+1) (M+1) (by rw[T9,ho]) (fun q=>by
   rw[hg q];have:=hb q;split <;> omega) (by omega) (by omega)
  rw[List.foldl_cons];show ts.foldl (eK c ss) (GD c (AY c ss) (E3 c t) o (AY c ss).length,IntKind.i64.wrap (n+1))=_;rw[w1 n hn,ih];simp only[Prod.mk.injEq];refine⟨?_,by rw[hl];omega⟩;apply List.map_congr_left;intro q hq;have hq:q<(AY c ss).length:=by simpa using hq
  rw[hg q,List.countP_cons];cases hp:WY c ss q t with
  |true=>simp[hq];omega
  |false=>simp
theorem nD{c:A3}{ss:List (Int×Int)}(hl:(D9 c.beach).length≤1000000)(hs:(AY c ss).length=c.fams.length):EO c ss=(List.range c.fams.length).map fun q=>jS (D9 c.beach) (WY c ss q):=by
 have h:=nC (c:=c) (ss:=ss) (D9 c.beach) (List.replicate c.fams.length 0) 0 0 (by simp[hs]) (fun q=>by
  rw[List.getD_eq_getElem?_getD,List.getElem?_replicate];split <;> simp) (by omega) (by omega)
 have h:mZ c ss=_:=h;unfold EO;rw[h,hs,List.map_map];apply List.map_congr_left;intro q hq;have hq:q<c.fams.length:=by simpa using hq
 simp only[Function.comp_apply,UA,jS];rw[List.getD_eq_getElem?_getD,List.getElem?_replicate,if_pos hq];simp only[Option.getD_some,Int.zero_add];by_cases h1:(D9 c.beach).countP (WY c ss q)=(D9 c.beach).length
 ·rw[if_pos h1,if_pos (by rw[h1])]
 ·rw[if_neg h1,if_neg (by omega)];by_cases h2:(D9 c.beach).countP (WY c ss q)=0
  ·rw[if_pos h2,if_pos (by rw[h2];rfl)]
  ·rw[if_neg h2,if_neg (by omega)]
theorem JL(b:AJ)(t:List Int):t∈D9 b↔t∈BJ b:=by rw[mW,GI]
theorem rP{c:A3}(hc:DW c):D9 c.beach≠[]:=fun e=>by
 have h:=hc.tr;cases hT:BJ c.beach with
 |nil=>exact h hT
 |cons t ts=>
  have:=(JL c.beach t).2 (by rw[hT];simp)
  rw[e]at this
  cases this
theorem AEU(H:List (List EI))(x:Sp):JM H x=NW H x.row.toNat x.place.toNat x.size.toNat:=rfl
theorem aZ{c:A3}(hc:DW c){ss:List (Int×Int)}(hs:DX c ss=true){t:List Int}(ht:t∈D9 c.beach):∀x∈FB c ss t,0≤x∧x≤1000:=fun x hx=>by have hlt:AU t c.beach.winds=true:=E5 ((JL _ _).1 ht);have hlw:=BU hlt;have hl5:=hc.be.hl;obtain⟨o1,o2,o3⟩:=RN hc t (by omega);obtain⟨h1,h2⟩:=EG hc hs;simp only[FB,List.mem_map]at hx;obtain⟨s,hs,rfl⟩:=hx;obtain⟨x1,x2,x3,x4,x5⟩:=h2 s hs;rw[AEU];have:=sU (H:=E3 c t) (fun l hl x hx=>by have:=o3 l hl x hx;omega) s.row.toNat s.place.toNat s.size.toNat;omega
theorem KA{c:A3}(hc:DW c){ss:List (Int×Int)}(hs:DX c ss=true):EN c ss=(List.range c.fams.length).map fun q=>DI B6 ((BJ c.beach).map fun t=>(FB c ss t).getD q 0):=by
 have hsl:(AY c ss).length=c.fams.length:=C6 (EG hc hs).1;have hG:∀t,(FB c ss t).length=c.fams.length:=fun t=>by simp[FB,hsl]
 have hne:=rP hc;unfold EN;rw[AES hG hne fun t ht=>aZ hc hs ht];apply List.map_congr_left;intro q hq;have hq:q<c.fams.length:=by simpa using hq
 refine AET (JL c.beach) hne fun t ht=>aZ hc hs ht _ ?_;rw[List.getD_eq_getElem?_getD,List.getElem?_eq_getElem (by rw[hG];exact hq)];exact List.getElem_mem _
theorem RI{c:A3}(hc:DW c){ss:List (Int×Int)}(hs:DX c ss=true):EO c ss=(List.range c.fams.length).map fun q=>jS (BJ c.beach) (WY c ss q):=by
 have hb:=hc.be;have hl:=nA (b:=c.beach) c.beach.winds [] (fun l hl=>(hb.wl l hl).2);have h5:=hb.hl;have hp:4 ^ c.beach.winds.length≤4 ^ 5:=Nat.pow_le_pow_right (by decide) h5;rw[nD (by unfold D9;omega) (C6 (EG hc hs).1)];apply List.map_congr_left;intro q _;have key:∀v,(∀x∈D9 c.beach,WY c ss q x=v)↔∀y∈BJ c.beach,WY c ss q y=v:=fun v=>
  ⟨fun h y hy=>h y ((JL _ _).2 hy),fun h y hy=>h y ((JL _ _).1 hy)⟩
 exact tL (key true) (key false)
theorem AKJ{good:Int}{H:List (List EI)}{x:Sp}(h3:0≤x.place)(h4:0≤x.size)(h5:x.place+x.size≤(H.getD x.row.toNat []).length):iD good H x=EU H good x.row.toNat x.place.toNat x.size.toNat:=by
 unfold iD EU;have e:WX H x=(List.range x.size.toNat).map fun q=>(H.getD x.row.toNat []).getD (x.place.toNat+q) ⟨0,0,0⟩:=by
  unfold WX;generalize H.getD x.row.toNat []=l at *;apply List.ext_getElem
  ·rw[List.length_drop,List.length_take,List.length_map,List.length_range];omega
  ·intro p p1 p2;have hp:p<x.size.toNat:=by simpa using p2
   rw[List.getElem_drop,List.getElem_take,List.getElem_map,List.getElem_range,List.getD_eq_getElem?_getD,List.getElem?_eq_getElem (by omega)];rfl
 rw[e,List.all_map];rfl
theorem lRB(c:A3)(f:L9)(s:Int×Int)(T:List (List Int))(hT:T.length≤2000)(X:List Int→List (List EI))(N:List Int→Int)(P:List Int→Bool)
  (qp:∀n t,t∈T→AW Tryz.prog kn (AE Tryz.prog ann kn (n+1400)) 28 [.agg (AB c.beach),GN c.plan,li t]=some (.list false ((X t).map BF)))
  (qh:∀n t,t∈T→AW Tryz.prog kn (AE Tryz.prog ann kn (n+1400)) 29 [.agg (AD c),.agg (AO f),.agg (AG s),.list false ((X t).map BF)]=some (.tup [i (N t),.bool (P t)])) :
  ∀(e k cc:Nat),k+e=T.length→4<cc→∀n m,e<m→BC (AE Tryz.prog ann kn (n+1600) 61) YM (ann 61 (BR YM)) m ⟨cc,[(3,true,.ptr 0 3 0 0),(4,true,.ptr 0 4 1 0),(5,true,.ptr 0 5 2 0),(6,true,.ptr 0 6 3 0),(8,true,.list false (T.map AM)),(9,true,.ptr 0 9 4 0),(10,true,i ((T.take k).countP P)),(11,true,i k)],⟨[],[(3,0,.box (AD c)),(4,1,.box (AO f)),(5,2,.box (AG s)),(6,3,.box [i 0,i 0]),(9,4,.box [i (DI B6 ((T.take k).map N)).1,i (DI B6 ((T.take k).map N)).2])]⟩⟩ =
   some (.exit 0,⟨cc,[(21,true,.bool false),(20,true,i T.length),(19,true,.list false (T.map AM)),(18,true,i T.length),(3,true,.ptr 0 3 0 0),(4,true,.ptr 0 4 1 0),(5,true,.ptr 0 5 2 0),(6,true,.ptr 0 6 3 0),(8,true,.list false (T.map AM)),(9,true,.ptr 0 9 4 0),(10,true,i (T.countP P)),(11,true,i T.length)],⟨[],[(3,0,.box (AD c)),(4,1,.box (AO f)),(5,2,.box (AG s)),(6,3,.box [i 0,i 0]),(9,4,.box [i (DI B6 (T.map N)).1,i (DI B6 (T.map N)).2])]⟩⟩)
 |0,k,cc,hd,hc=>by
  obtain rfl:k=T.length:=by omega
  rw[List.take_length];intro n m hm;obtain⟨m,rfl⟩:∃m',m=m'+1:=⟨m-1,by omega⟩;rw[AC];simp
 |e+1,k,cc,hd,hc=>by
  have hk:k<T.length:=by omega
  have hw:=BH (k:=k) (by omega);have hcp:(T.take k).countP P≤k:=by have:=List.countP_le_length (p:=P) (l:=T.take k);rw[List.length_take]at this;omega
  have hw2:=BH (k:=(T.take k).countP P) (by omega);have qp1:=fun n=>qp n T[k] (List.getElem_mem hk);have qh1:=fun n=>qh n T[k] (List.getElem_mem hk);have ih:=lRB c f s T hT X N P qp qh e (k+1) cc (by omega) hc;intro n m hm;obtain⟨m,rfl⟩:∃m',m=m'+1:=⟨m-1,by omega⟩;have ih:=ih n m (by omega);have h4:4<cc:=hc;have htk:T.take (k+1)=T.take k++[T[k]]:=List.take_succ_eq_append_getElem hk;have hr:DI B6 ((T.take (k+1)).map N)=(min (DI B6 ((T.take k).map N)).1 (N T[k]),max (DI B6 ((T.take k).map N)).2 (N T[k])):=by rw[htk,List.map_append];unfold DI;rw[List.foldl_append];rfl
  have m1:∀a b:Int,min a b=if b<a then b else a:=fun a b=>by split<;>omega
  have m2:∀a b:Int,max a b=if a<b then b else a:=fun a b=>by split<;>omega
  rw[m1,m2]at hr;rw[hr,htk,List.countP_append]at ih;generalize DI B6 ((T.take k).map N)=r at *;generalize DI B6 (T.map N)=R at *;generalize T.countP P=QQ at *;generalize hcq:(T.take k).countP P=q at *;have hsg:[T[k]].countP P=if P T[k]=true then 1 else 0:=by rw[List.countP_cons,List.countP_nil];simp
  rw[hsg]at ih;generalize N T[k]=NT at *;generalize X T[k]=XT at *;cases hP:P T[k]with
  |true=>
   rw[hP]at qh1 ih
   simp only[if_true]at ih
   rw[AC]
   simp only[AD,AB,AO,AG]at ih qp1 qh1⊢
   simp at ih
   simp[hk,hw,hw2,h4,AM,AH,AR,A0,AO,AG,qp1,qh1,BF,BI,ET,E9,ih]
   done
  |false=>
   rw[hP]at qh1 ih
   simp only[Bool.false_eq_true,if_false,Nat.add_zero]at ih
   rw[AC]
   simp only[AD,AB,AO,AG]at ih qp1 qh1⊢
   simp at ih
   simp[hk,hw,hw2,h4,AM,AH,AR,A0,AO,AG,qp1,qh1,BF,BI,ET,E9,ih]
   done
theorem yS(n:Nat)(c:A3)(hc:DW c)(f:L9)(s:Int×Int)(X:List Int→List (List EI))(N:List Int→Int)(P:List Int→Bool)
  (qp:∀n t,t∈BJ c.beach→AW Tryz.prog kn (AE Tryz.prog ann kn (n+1400)) 28 [.agg (AB c.beach),GN c.plan,li t]=some (.list false ((X t).map BF)))
  (qh:∀n t,t∈BJ c.beach→AW Tryz.prog kn (AE Tryz.prog ann kn (n+1400)) 29 [.agg (AD c),.agg (AO f),.agg (AG s),.list false ((X t).map BF)]=some (.tup [i (N t),.bool (P t)])) :
  AW Tryz.prog kn (AE Tryz.prog ann kn (n+2600)) 32 [.agg (AD c),.agg (AO f),.agg (AG s)]=some (.tup [.agg (DT (DI B6 ((BJ c.beach).map N))),i (jS (BJ c.beach) P)]):=by
 rw[AQ rfl,AP Tryz.func32 b32 rfl (by simp[AD,AH,AM,AG,AR,A0,AO])]
 have hb:=hc.be
 have hne:=hc.tr
 have hm:=hb.many
 have hlen:(BJ c.beach).length≤2000:=by have h2:(BJ c.beach).length≤((List.range (F4 c.beach.winds)).map (D1 c.beach.winds)).length:=List.length_filter_le _ _;rw[List.length_map,List.length_range]at h2;omega
 have qt:=fun n=>cT n c.beach hb
 rw[slX hne]at qt
 have ih:=lRB c f s (BJ c.beach) hlen X N P qp qh (BJ c.beach).length 0 5 (by omega) (by omega)
 have ih:=ih (n+992) (n+2592) (by omega)
 rw[List.take_zero,List.countP_nil,List.map_nil,show DI B6 []=B6 from rfl]at ih
 have hcl:=List.countP_le_length (p:=P) (l:=BJ c.beach)
 unfold jS
 generalize BJ c.beach=T at *
 generalize DI B6 (T.map N)=R at *
 generalize T.countP P=q at *
 simp only[AD,AB,AO,AG,B6,DT]at ih qt⊢
 simp at ih
 by_cases h1:q=T.length
 ·subst h1;simp[c32,AF,AH,AM,AG,AR,A0,AO,qt,ih,ET];done
 ·have h1':¬(q:Int)=(T.length:Int):=by omega
  by_cases h2:q=0
  ·subst h2;have h1'':¬(0:Int)=(T.length:Int):=by omega
   have h1e:¬T.length=0:=fun e=>h1 e.symm;simp at ih;simp[c32,AF,AH,AM,AG,AR,A0,AO,qt,ih,ET,h1,h1''];done
  ·have h2':¬(q:Int)=0:=by omega
   simp[c32,AF,AH,AM,AG,AR,A0,AO,qt,ih,ET,h1,h1',h2,h2'];done
end Go.Proofs.Tryz.Op
