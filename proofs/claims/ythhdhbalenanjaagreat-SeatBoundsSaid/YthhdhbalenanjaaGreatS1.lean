/- Contracts: asked; the way to the truths of a case. No condition but lists of at most 40. -/
import Derived.Test.YthhdhbalenanjaaGreatC1
import Derived.Test.YthhdhbalenanjaaGreatFz
import Derived.Test.YthhdhbalenanjaaGreatW4
import Derived.Test.YthhdhbalenanjaaGreatN1
set_option maxRecDepth 100000
set_option linter.unusedSimpArgs false
open Go Go.Pg Go.Proofs Go.Wind
namespace Go.Proofs.Tryz.Op
def DS(c:A3)(ss:List (Int×Int)):Int:=if DM c≠0 then DM c else if DX c ss=true then 0 else 2
theorem vA(n:Nat)(c:A3)(h40:∀l∈c.beach.winds,l.length≤40)(hch:c.chairs.length≤40)(ss:List (Int×Int)):AW Tryz.prog kn (AE Tryz.prog ann kn (n+8400)) 77 [.agg (AD c),.list false (ss.map AG)]=some (.tup [sl ((if DS c ss=0 then AY c ss else[]).map AX),i (DS c ss)]):=by
 rw[AQ rfl,AP Tryz.func77 b77 rfl (by simp[AD,AH,AM,AG,AR,A0,AO])];have slnil:sl ([]:List (List V))=.nil:=rfl;have qc:=fun n=>oO n c h40 hch;by_cases h:DM c=0
 ·have hc:=K9 h;have qs:=fun n=>APC n c hc ss;have hsv:(NU c ss).2=DX c ss:=by unfold NU DX;by_cases hs:ss.length=c.fams.length<;>simp[hs]
  rw[hsv]at qs;rw[h]at qc;by_cases hs:DX c ss=true
  ·rw[hs]at qs;rw[show DS c ss=0 by simp[DS,h,hs],if_pos rfl];have hsp:(NU c ss).1=AY c ss:=by unfold NU;rw[if_pos (EG hc hs).1]
   rw[hsp]at qs;have hcl:∀e∈(AY c ss).map AX,∀v∈e,AK 7 v=true:=fun e he v hv=>by obtain⟨l,_,rfl⟩:=List.mem_map.1 he;simp only[AX,List.mem_cons,List.not_mem_nil,or_false]at hv;rcases hv with rfl|rfl|rfl|rfl<;>rfl
   generalize (AY c ss).map AX=O at *;simp only[AD,AB]at qc qs⊢;simp[c77,AF,slnil,qc,qs,AG,AR,A0,AO];exact hcl
  ·have hs:DX c ss=false:=by simpa using hs
   rw[hs]at qs;rw[show DS c ss=2 by simp[DS,h,hs],if_neg (by decide)];generalize (NU c ss).1=L at *;simp only[AD,AB]at qc qs⊢;simp[c77,AF,slnil,qc,qs,AG,AR,A0,AO,AX]
 ·rw[show DS c ss=DM c by simp[DS,h],if_neg h];generalize DM c=E at *;simp only[AD]at qc⊢;simp[c77,AF,slnil,qc,h,AG,AR,A0,AO]
theorem BF4{α:Type}(rs:List α)(x:α)(f:α→α):(rs++[x]).modify rs.length f=rs++[f x]:=by
 induction rs with
 |nil=>rfl
 |cons y ys ih=>simpa [List.modify_succ_cons]using ih
theorem XC{α:Type}(a:α)(r:List α)(x:α):CX (a::(r++[x]))=some (a::r,x):=D4 x (a::r)
theorem G6.c1{L L1:AA}{rs:List AA}(h:G6 (L::L1::rs))(t:St)(ht:rs.length+3≤t.up.length):AL t L=L:=by have:=h t (by simpa using ht);simp only[List.map_cons,List.cons.injEq]at this;exact this.1
theorem G6.c2{L L1:AA}{rs:List AA}(h:G6 (L::L1::rs))(t:St)(ht:rs.length+3≤t.up.length):AL t L1=L1:=by have:=h t (by simpa using ht);simp only[List.map_cons,List.cons.injEq]at this;exact this.2.1
theorem G6.c3{L L1:AA}{rs:List AA}(h:G6 (L::L1::rs))(t:St)(ht:rs.length+3≤t.up.length):rs.map (AL t)=rs:=by have:=h t (by simpa using ht);simp only[List.map_cons,List.cons.injEq]at this;exact this.2.2
theorem A4U(L L1:AA)(rs0:List AA)(g3:Nat)(hU:G6 (L::L1::rs0))(c γ p:Nat)(B:AZ)(rest:AA)(rs:List EI)(hB:∀t,CJ t B=B)(hr:∀t,AL t rest=rest)(hp:p<rs.length)(hγ:γ<c)(y:EI)(w1:IntKind.i64.wrap (rs[p].sun+y.sun)=rs[p].sun+y.sun)(w2:IntKind.i64.wrap (rs[p].calm+y.calm)=rs[p].calm+y.calm)(w3:IntKind.i64.wrap (rs[p].good+y.good)=rs[p].good+y.good):∃X1 X2,∀(n d:Nat) (fr:Fr),G4 (BN Tryz.prog ann kn (n+100)) (some d) ⟨c,fr,⟨L::L1::rs0,(3,g3,B)::(20,γ,.vec 155 (rs.map BI))::rest⟩⟩ 152 [.eptr (rs0.length+2) 20 γ p 0,.agg [i y.sun,i y.calm,i y.good]] =
  some ⟨c+1,(d,true,.tup [])::fr,⟨L::L1::rs0,(20,γ,.vec 155 ((rs.set p (zU rs[p] y)).map BI))::(20,γ,X1)::(20,γ,X2)::(3,g3,B)::(20,γ,.vec 155 (rs.map BI))::rest⟩⟩:=by
 refine⟨.vec 155 ((rs.set p ⟨rs[p].sun+y.sun,rs[p].calm+y.calm,rs[p].good⟩).map BI),.vec 155 ((rs.set p ⟨rs[p].sun+y.sun,rs[p].calm,rs[p].good⟩).map BI),fun n d fr=>?_⟩
 rw[A7 Tryz.func152 b152 rfl (by simp[show AK 9 (V.eptr (rs0.length+2) 20 γ p 0)=false from rfl])]
 have hg:γ<c+1:=by omega
 have h1:=fun t h=>hU.c1 t h
 have h2:=fun t h=>hU.c2 t h
 have h3:=fun t h=>hU.c3 t h
 have e:(rs.map BI).set p [i (rs[p].sun+y.sun),i (rs[p].calm+y.calm),i (rs[p].good+y.good)]=(rs.set p (zU rs[p] y)).map BI:=ALH rs p _ _ _
 rw[←e]
 rw[←ALH,←ALH]
 generalize hz:(some _:Option XS)=Z
 simp[A1Y,AF,BI,hp,hg,w1,w2,w3,E9,BF4,XC,h1,h2,h3]
 simp only[ALH,A81,hB,hr]at hz⊢
 exact hz
theorem vB(L L1:AA)(rs0:List AA)(g10 g3:Nat)(v6:V)(b:AJ)(hb:Valid b)(plan:List (List Int))(hp:FD b plan)(t:List Int)(ht:AU t b.winds=true)(h10:L1.get 10=some (g10,.vec 3 (t.map AH)))(hU:G6 (L::L1::rs0))(r p:Nat)(hr:(r:Int)<b.rows)(hp2:(p:Int)<b.places)(A:List (List EI))(tot:Int)(γ3:Nat):∀(d h c γ:Nat) (rs:List EI),h+d=t.length→(rs.length:Int)=b.places→rs[p]? = some (FK (I1 b plan t r p) (IL b plan r) h)→γ<c→∀n m,d<m→BC (AE Tryz.prog ann kn (n+1400) 67) SE (ann 67 (BR SE)) m ⟨c,[(1,true,GN plan),(2,true,.vec 1 10 g10 t.length),(3,true,.ptr (rs0.length+2) 3 g3 0),(6,true,v6),(7,true,i tot),(8,true,i r),(9,true,.vec (rs0.length+2) 20 γ rs.length),(10,true,i p),(14,true,i b.rows),(15,true,i r),(22,true,i rs.length),(23,true,i p),(26,true,.vec 1 10 g10 t.length),(27,true,i t.length),(28,true,i h)],⟨L::L1::rs0,(3,g3,.box (AB b))::(20,γ,.vec 155 (rs.map BI))::pl 63 γ3 156 (A.map BF)⟩⟩ =
  some (.exit 4,⟨c+d,[(29,true,.bool false),(1,true,GN plan),(2,true,.vec 1 10 g10 t.length),(3,true,.ptr (rs0.length+2) 3 g3 0),(6,true,v6),(7,true,i tot),(8,true,i r),(9,true,.vec (rs0.length+2) 20 γ rs.length),(10,true,i p),(14,true,i b.rows),(15,true,i r),(22,true,i rs.length),(23,true,i p),(26,true,.vec 1 10 g10 t.length),(27,true,i t.length),(28,true,i t.length)],⟨L::L1::rs0,(3,g3,.box (AB b))::(20,γ,.vec 155 ((rs.set p (DC b plan t r p)).map BI))::pl 63 γ3 156 (A.map BF)⟩⟩)
 |0,h,c,γ,rs,hd,hl,e,hγ,n,m+1,hm=>by
  have:h=t.length:=by omega
  subst this;have:rs.set p (DC b plan t r p)=rs:=by
   have hpl:p<rs.length:=by omega
   rw[List.getElem?_eq_getElem hpl,Option.some.injEq]at e;unfold DC;rw[←e];exact List.set_getElem_self hpl
  rw[this,AC];simp[AB]
 |d+1,h,c,γ,rs,hd,hl,e,hγ,n,m+1,hm=>by
  have hd':h<t.length:=by omega
  have hw:=BH (k:=h) (by have:=BU ht;have:=hb.hl;omega);have hlw:=BU ht;have hwi:=hb.wi;have hsu:=hb.su;have hpn:=hp.len;have hh:h<plan.length:=by omega
  have hpe:plan.getD h []=plan[h]:=by rw[List.getD_eq_getElem?_getD,List.getElem?_eq_getElem hh];rfl
  have hr2:r<plan[h].length:=by have:=hp.row h hh;rw[hpe]at this;omega
  have hx:B7 plan h r=plan[h][r]:=by unfold B7;rw[hpe,List.getD_eq_getElem?_getD,List.getElem?_eq_getElem hr2];rfl
  have htd:t.getD h 0=t[h]:=by rw[List.getD_eq_getElem?_getD,List.getElem?_eq_getElem hd'];rfl
  have hdir:=ME hb ht hd';rw[htd,DV]at hdir;have hro:=hb.ro;have hpc:=hb.pl;have q:=fun n=>kOf n b hb (r,p) (by simp only;omega) h (by omega) (B7 plan h r) t[h] hdir;rw[hx]at q;have hpl:p<rs.length:=by omega
  rw[List.getElem?_eq_getElem hpl,Option.some.injEq]at e;have st:=AF9 b plan t r p h;rw[hx,htd,←e]at st;have b1:=bH (I1 b plan t r p) (IL b plan r) h;have b2:=A82 b (r,p) h plan[h][r] t[h];rw[←e]at b1;have hh5:h≤5:=by have:=hb.la;omega
  generalize bP b (r,p) h plan[h][r] t[h]=y at q st b2;obtain⟨X1,X2,q2⟩:=A4U L L1 rs0 g3 hU c γ p (.box (AB b)) (pl 63 γ3 156 (A.map BF)) rs (fun t=>AO1 t b) (fun t=>AUX t 63 γ3 156 _ (ALI t A)) hpl hγ y (AV (by omega) (by omega)) (AV (by omega) (by omega)) (AV (by omega) (by omega));have ih:=vB L L1 rs0 g10 g3 v6 b hb plan hp t ht h10 hU r p hr hp2 A tot γ3 d (h+1) (c+1) γ (rs.set p (zU rs[p] y)) (by omega) (by simpa using hl) (by rw[List.getElem?_set_self hpl,st]) (by omega) n m (by omega);rw[List.set_set]at ih;generalize rs.set p (DC b plan t r p)=F at ih⊢;generalize hR:rs.set p (zU rs[p] y)=R at ih q2;have hRl:R.length=rs.length:=by rw[←hR];simp
  have hc':c+1+d=c+(d+1):=by omega
  rw[hRl,hc']at ih;rw[AC];simp only[AB,AG]at q q2 ih⊢;simp at ih;simp[h10,hd',hw,AH,AM,hh,hr2,q,AG,BI,ET,hpl,q2,ih]
theorem vC(L L1:AA)(rs0:List AA)(g10 g3:Nat)(v6:V)(b:AJ)(hb:Valid b)(plan:List (List Int))(hp:FD b plan)(t:List Int)(ht:AU t b.winds=true)(h10:L1.get 10=some (g10,.vec 3 (t.map AH)))(hU:G6 (L::L1::rs0))(r:Nat)(hr:(r:Int)<b.rows)(A:List (List EI))(tot:Int)(htot:0≤tot∧tot≤1000)(γ3 γ:Nat):∀(d p c:Nat),p+d=b.places.toNat→γ<c→∃c',γ<c'∧∀n m,d<m→BC (AE Tryz.prog ann kn (n+1600) 67) SF (ann 67 (BR SF)) m ⟨c,[(1,true,GN plan),(2,true,.vec 1 10 g10 t.length),(3,true,.ptr (rs0.length+2) 3 g3 0),(6,true,v6),(7,true,i (tot+FE b plan t r p)),(8,true,i r),(9,true,.vec (rs0.length+2) 20 γ b.places.toNat),(14,true,i b.rows),(15,true,i r),(22,true,i b.places.toNat),(23,true,i p)],⟨L::L1::rs0,(3,g3,.box (AB b))::(20,γ,.vec 155 ((L6 b plan t r p).map BI))::pl 63 γ3 156 (A.map BF)⟩⟩ =
  some (.exit 2,⟨c',[(24,true,.bool false),(1,true,GN plan),(2,true,.vec 1 10 g10 t.length),(3,true,.ptr (rs0.length+2) 3 g3 0),(6,true,v6),(7,true,i (tot+FE b plan t r b.places.toNat)),(8,true,i r),(9,true,.vec (rs0.length+2) 20 γ b.places.toNat),(14,true,i b.rows),(15,true,i r),(22,true,i b.places.toNat),(23,true,i b.places.toNat)],⟨L::L1::rs0,(3,g3,.box (AB b))::(20,γ,.vec 155 ((UH b plan t r).map BI))::pl 63 γ3 156 (A.map BF)⟩⟩)
 |0,p,c,hd,hγ=>by
  have:p=b.places.toNat:=by omega
  subst this;refine⟨c,hγ,fun n m hm=>?_⟩;obtain⟨m,rfl⟩:∃m',m=m'+1:=⟨m-1,by omega⟩;rw[zV,AC];simp[AB]
 |d+1,p,c,hd,hγ=>by
  have hpc:=hb.pl;have hla:=hb.la;have hlw:=BU ht;have hwi:=hb.wi;have hw:=BH (k:=p) (by omega);have hp':p<b.places.toNat:=by omega
  obtain⟨c',h1,ih⟩:=vC L L1 rs0 g10 g3 v6 b hb plan hp t ht h10 hU r hr A tot htot γ3 γ d (p+1) (c+t.length) (by omega) (by omega);have q:=vB L L1 rs0 g10 g3 v6 b hb plan hp t ht h10 hU r p hr (by omega) A (tot+FE b plan t r p) γ3 t.length 0 c γ (L6 b plan t r p) (by omega) (by rw[UI];omega) (AGA hp') hγ;rw[oB,UI]at q;have q:=fun n m=>q n (m+100) (by omega);have hg:(L6 b plan t r (p+1))[p]? = some (DC b plan t r p):=by rw[←oB,List.getElem?_set_self (by rw[UI];exact hp')]
  have hl:=UI b plan t r (p+1);have b1:=VW b plan t r p;have b2:=bH (I1 b plan t r p) (IL b plan r) t.length;have b3:(p:Int)*t.length≤5*5:=Int.mul_le_mul (by omega) (by omega) (by omega) (by omega);have e1:tot+FE b plan t r (p+1)=tot+FE b plan t r p+(DC b plan t r p).good:=by simp only[FE];omega
  have hwt:IntKind.i64.wrap (tot+FE b plan t r p+(DC b plan t r p).good)=tot+FE b plan t r p+(DC b plan t r p).good:=AV (by unfold DC;omega) (by unfold DC;omega);rw[e1]at ih;refine⟨c',h1,fun n m hm=>?_⟩;obtain⟨m,rfl⟩:∃m',m=m'+1:=⟨m-1,by omega⟩;have ih:=ih n m (by omega);generalize L6 b plan t r (p+1)=R at ih q hg hl;generalize L6 b plan t r p=R0 at q⊢;have hgl:p<R.length:=by omega
  rw[List.getElem?_eq_getElem hgl,Option.some.injEq]at hg;generalize DC b plan t r p=y at *;generalize FE b plan t r b.places.toNat=TT at ih⊢;generalize UH b plan t r=RR at ih⊢;generalize b.places.toNat=PP at hp' hl ih q⊢;rw[AC];simp only[AB]at q ih⊢;simp at ih q;have hle:PP≤R.length:=by omega
  simp[h10,hp',hw,hwt,hgl,hle,hg,BI,ET,q,ih]
def pvl(l k γ:Nat):List (List V)→V
 |[]=>.nil
 |_::es=>.vec l k γ (es.length+1)
theorem aW(l k γ:Nat):pvl l k γ []=.nil:=rfl
theorem RH(l k γ:Nat)(e:List V)(es:List (List V)):pvl l k γ (e::es)=.vec l k γ (es.length+1):=rfl
theorem BF5:sl []=.nil:=rfl
theorem BF6(e:List V)(es:List (List V)):sl (e::es)=.list false (e::es):=rfl
theorem vD(L L1:AA)(rs0:List AA)(g10 g3:Nat)(b:AJ)(hb:Valid b)(plan:List (List Int))(hp:FD b plan)(t:List Int)(ht:AU t b.winds=true)(h10:L1.get 10=some (g10,.vec 3 (t.map AH)))(hU:G6 (L::L1::rs0)):∀(d r c γ3:Nat),r+d=b.rows.toNat→g3<c→∃fr c' γ',(BZ fr 6=some (true,pvl (rs0.length+2) 63 γ' ((DH b plan t b.rows.toNat).map BF))∧BZ fr 7=some (true,i (HT b plan t b.rows.toNat)))∧c≤c'∧∀n m,d<m→BC (AE Tryz.prog ann kn (n+1800) 67) SG (ann 67 (BR SG)) m ⟨c,[(1,true,GN plan),(2,true,.vec 1 10 g10 t.length),(3,true,.ptr (rs0.length+2) 3 g3 0),(6,true,pvl (rs0.length+2) 63 γ3 ((DH b plan t r).map BF)),(7,true,i (HT b plan t r)),(14,true,i b.rows),(15,true,i r)],⟨L::L1::rs0,(3,g3,.box (AB b))::pl 63 γ3 156 ((DH b plan t r).map BF)⟩⟩ =
  some (.exit 0,⟨c',fr,⟨L::L1::rs0,(3,g3,.box (AB b))::pl 63 γ' 156 ((DH b plan t b.rows.toNat).map BF)⟩⟩)
 |0,r,c,γ3,hd,hc=>by
  have hr:r=b.rows.toNat:=by omega
  have hro:=hb.ro;have hr':b.rows=(r:Int):=by omega
  rw[←hr];generalize (DH b plan t r).map BF=A;refine⟨?fr,c,γ3,?g1,Nat.le_refl _,fun n m hm=>?g2⟩;case g2=>
   obtain⟨m,rfl⟩:∃m',m=m'+1:=⟨m-1,by omega⟩
   rw[AC]
   simp[AB,hr']
   rfl
  case g1=>simp
 |d+1,r,c,γ3,hd,hc=>by
  have hro:=hb.ro;have hpc:=hb.pl;have hw:=BH (k:=r) (by omega);have hr':(r:Int)<b.rows:=by omega
  have hla:=hb.la;have hlw:=BU ht;have hwi:=hb.wi;have b1:=eZ b hb plan t (by omega) r (by omega);obtain⟨c1,h1,q⟩:=vC L L1 rs0 g10 g3 (pvl (rs0.length+2) 63 γ3 ((DH b plan t r).map BF)) b hb plan hp t ht h10 hU r hr' (DH b plan t r) (HT b plan t r) (by omega) γ3 c b.places.toNat 0 (c+1) (by omega) (by omega);have q:=fun n m=>q n (m+100) (by omega);obtain⟨fr,c',γ',e1,hcc,ih⟩:=vD L L1 rs0 g10 g3 b hb plan hp t ht h10 hU d (r+1) (c1+1) c1 (by omega) (by omega);have e:HT b plan t (r+1)=HT b plan t r+FE b plan t r b.places.toNat:=rfl;have happ:=A83 (k:=((DH b plan t r).map BF).length) (x:=UH b plan t r) (by simp[DH];omega);have hR1:∀e∈(DH b plan t r).map BF,e.length=1:=fun e he=>by obtain⟨l,_,rfl⟩:=List.mem_map.1 he;rfl
  rw[zW]at q;rw[sE,e,List.map_append,List.map_cons,List.map_nil]at ih;refine⟨fr,c',γ',e1,by omega,fun n m hm=>?_⟩;obtain⟨m,rfl⟩:∃m',m=m'+1:=⟨m-1,by omega⟩;have ih:=ih n m (by omega);have h0:FE b plan t r 0=0:=rfl;rw[h0]at q;generalize DH b plan t b.rows.toNat=FF at ih⊢;generalize FE b plan t r b.places.toNat=TT at ih q;have hRl:(UH b plan t r).length=b.places.toNat:=by simp[UH]
  generalize UH b plan t r=RR at ih q happ hRl;obtain⟨PP,hPP⟩:∃P:Nat,b.places=P:=⟨b.places.toNat,by omega⟩;have hP2:b.places.toNat=PP:=by omega
  rw[hP2]at q hRl;subst hRl;have htl:∀l o,E1 l 20 o (pl 63 γ3 156 ((DH b plan t r).map BF))=pl 63 γ3 156 ((DH b plan t r).map BF):=fun l o=>VO (by decide) _ _ _ (by simp[BF,BI]);generalize (DH b plan t r).map BF=A at *;rw[AC];simp only[AB,hPP]at q ih⊢;have m1:RR.length*24≤140737488355328:=by omega
  have m2:RR.length≤maxLen:=by simp[maxLen];omega
  have hgc:g3<c+1:=by omega
  cases A with
  |nil=>
   simp[BF,aW,RH]at ih q happ
   simp[BI]at q
   simp[hr',hw,BF,q,ih,happ,m1,m2,hgc,aW,RH,E9]
   done
  |cons a A=>
   have hR2:=hR1 a (by simp)
   have hR3:=eq_true (fun e he=>hR1 e (List.mem_cons_of_mem a he):∀e∈A,e.length=1)
   simp[BF,aW,RH]at ih q happ htl
   simp[BI]at q
   simp[hr',hw,BF,q,ih,happ,m1,m2,hgc,htl,hR2,hR3,aW,RH,E9]
   done
def QU(L L1:AA)(rs:List AA)(loc:AA):Prop:=∀t:St,rs.length+3≤t.up.length→(AL t L=L∧AL t L1=L1∧rs.map (AL t)=rs)∧AL t loc=loc
theorem QU.stays{L L1 loc:AA}{rs:List AA}(h:QU L L1 rs loc):G6 (L::L1::(rs++[loc])):=by intro t ht;obtain⟨⟨h1,h2,h3⟩,h4⟩:=h t (by simp at ht;omega);simp only[List.map_cons,List.map_append,List.map_nil,h1,h2,h3,h4]
theorem QU.more{L L1 loc l2:AA}{rs:List AA}(h:QU L L1 rs loc)(h2:∀t:St,rs.length+4≤t.up.length→AL t l2=l2):QU L L1 (rs++[loc]) l2:=by
 intro t ht;have ht:rs.length+4≤t.up.length:=by simp at ht;omega
 obtain⟨⟨h1,h5,h3⟩,h4⟩:=h t (by omega);exact⟨⟨h1,h5,by simp only[List.map_append,List.map_cons,List.map_nil,h3,h4]⟩,h2 t ht⟩
theorem AEL(L L1:AA)(rs:List AA)(loc:AA)(g10:Nat)(b:AJ)(hb:Valid b)(plan:List (List Int))(hp:FD b plan)(t:List Int)(ht:AU t b.winds=true)(h10:L1.get 10=some (g10,.vec 3 (t.map AH)))(hU:QU L L1 rs loc)(c d:Nat)(fr:Fr):∃c',c≤c'∧∀n,G4 (BN Tryz.prog ann kn (n+2000)) (some d) ⟨c,fr,⟨L::L1::rs,loc⟩⟩ 113 [.agg (AB b),GN plan,.vec 1 10 g10 t.length] =
  some ⟨c',(d,true,.tup [sl ((DH b plan t b.rows.toNat).map BF),i (HT b plan t b.rows.toNat)])::fr,⟨L::L1::rs,loc⟩⟩:=by
 obtain⟨f,c',γ',⟨e1,e2⟩,hc,q⟩:=vD L L1 (rs++[loc]) g10 c b hb plan hp t ht h10 hU.stays b.rows.toNat 0 (c+1) 0 (by omega) (by omega)
 refine⟨c',by omega,fun n=>?_⟩
 have hro:=hb.ro
 have q:=fun n m=>q n (m+100) (by omega)
 have h0:DH b plan t 0=[]:=rfl
 have h1:HT b plan t 0=0:=rfl
 rw[h0,h1]at q
 have hcl:∀e∈(DH b plan t b.rows.toNat).map BF,∀v∈e,AK 7 v=true:=fun e he v hv=>by obtain⟨l,_,rfl⟩:=List.mem_map.1 he;simp only[BF,List.mem_cons,List.not_mem_nil,or_false]at hv;subst hv;simp[BI]
 rw[A7 Tryz.func113 b113 rfl (by simp[AB,AH,AM,AG])]
 generalize (DH b plan t b.rows.toNat).map BF=A at *
 generalize HT b plan t b.rows.toNat=TT at *
 simp only[AB]at q⊢
 cases A with
 |nil=>
  simp[aW,RH]at q e1 e2
  simp[APX,AF,q,e1,e2,aW,RH,BF5,XC]
  exact hU _ (by simp)
 |cons a A=>
  simp[aW,RH]at q e1 e2
  simp[APX,AF,q,e1,e2,aW,RH,BF6,XC]
  exact hU _ (by simp)
theorem yP(L L1:AA)(rs:List AA)(loc:AA)(g10:Nat)(b:AJ)(hb:Valid b)(plan:List (List Int))(hp:DJ b plan=true)(t:List Int)(ht:AU t b.winds=true)(h10:L1.get 10=some (g10,.vec 3 (t.map AH)))(hU:QU L L1 rs loc)(c d:Nat)(fr:Fr):∃c',c≤c'∧∀n,G4 (BN Tryz.prog ann kn (n+2200)) (some d) ⟨c,fr,⟨L::L1::rs,loc⟩⟩ 66 [.agg (AB b),GN plan,.vec 1 10 g10 t.length] =
  some ⟨c',(d,true,.tup [sl ((DH b plan t b.rows.toNat).map BF),i 0])::fr,⟨L::L1::rs,loc⟩⟩:=by
 have hU2:QU L L1 (rs++[loc]) [(3,c,.box (AB b))]:=hU.more fun t _=>by rw[A5,AO1];rfl
 obtain⟨c',hc,q⟩:=AEL L L1 (rs++[loc]) [(3,c,.box (AB b))] g10 b hb plan (fO hp) t ht h10 hU2 (c+1) 30 [(29,true,.vec 1 10 g10 t.length),(28,true,GN plan),(27,true,.agg (AB b)),(1,true,GN plan),(2,true,.vec 1 10 g10 t.length),(3,true,.ptr (rs.length+3) 3 c 0)]
 refine⟨c',by omega,fun n=>?_⟩
 have q1:=fun n=>VV n b hb.w40
 have q2:=fun n=>wD n b hb plan
 have q3:=fun n=>eY n b hb t
 rw[JV hb]at q1
 rw[hp]at q2
 rw[ht]at q3
 rw[A7 Tryz.func66 b66 rfl (by simp[AB,AH,AM,AG])]
 have hcl:∀e∈(DH b plan t b.rows.toNat).map BF,∀v∈e,AK 7 v=true:=fun e he v hv=>by obtain⟨l,_,rfl⟩:=List.mem_map.1 he;simp only[BF,List.mem_cons,List.not_mem_nil,or_false]at hv;subst hv;simp[BI]
 generalize (DH b plan t b.rows.toNat).map BF=A at *
 generalize HT b plan t b.rows.toNat=TT at *
 simp only[AB]at q1 q2 q3 q⊢
 simp[c66,AF,AH,AM,AG,q1,q2,q3,q,h10,XC]
 exact hU _ (by simp)
end Go.Proofs.Tryz.Op
namespace Go.Wind
def O5(b:AJ):List (List Int)→List Int→List (List Int)
 |[],p=>if CS b p=true then[p] else[]
 |l::r,p=>l.flatMap fun x=>O5 b r (p++[x])
end Go.Wind
namespace Go.Proofs.Tryz.Op
structure Ls(c:A3)(f:FuncId)(caps:List V)(g2 g3 g4 g5 g10:Nat)(t:List Int)(L:AA):Prop where
 p2:L.get 2=some (g2,.box (AD c))
 p3:L.get 3=some (g3,.box [.fn f [] caps])
 p4:L.get 4=some (g4,.box [.vec 1 10 g10 c.beach.winds.length])
 p5:L.get 5=some (g5,.box [.fn 123 [] [.ptr 1 4 g4 0,.ptr 1 2 g2 0,.ptr 1 5 g5 0,.ptr 1 3 g3 0]])
 p10:L.get 10=some (g10,.vec 3 (t.map AH))
 st:∀s:St,2≤s.up.length→AL s L=L
theorem Ls.set{c:A3}{f:FuncId}{caps:List V}{g2 g3 g4 g5 g10:Nat}{t:List Int}{L:AA}(h:Ls c f caps g2 g3 g4 g5 g10 t L){k:Nat}(x:Int):Ls c f caps g2 g3 g4 g5 g10 (t.set k x) ((10,g10,.vec 3 ((t.map AH).set k (AH x)))::L) where
 p2:=by simpa using h.p2
 p3:=by simpa using h.p3
 p4:=by simpa using h.p4
 p5:=by simpa using h.p5
 p10:=by simp[List.map_set]
 st:=by intro s hs;rw[A5,h.st s hs,←YU,FW]
def vE{α:Type}(c:A3)(Lv:α→AA→Nat→Prop)(step:α→List Int→α)(f:FuncId)(caps:List V)(γ0 N0:Nat):Prop :=
 ∀(a:α) (L L1:AA) (rs:List AA) (cc:Nat) (fr:Fr) (t:List Int),Lv a L cc→γ0<cc→CS c.beach t=true→QU L L1 rs [] →
  ∃L' c',Lv (step a t) L' c'∧cc≤c'∧∀n,G4 (BN Tryz.prog ann kn (n+N0)) (some 49) ⟨cc,fr,⟨L::L1::rs,[]⟩⟩ f (.list false ((E3 c t).map BF)::caps)=some ⟨c',(49,true,.tup [])::fr,⟨L'::L1::rs,[]⟩⟩
section
variable {α:Type}{c:A3}{Lv:α→AA→Nat→Prop}{step:α→List Int→α}{f:FuncId}{caps:List V}{γ0 N0:Nat}
def A4V(c:A3)(Lv:α→AA→Nat→Prop)(step:α→List Int→α)(f:FuncId)(caps:List V)(γ0 g2 g3 g4 g5 g10 M k:Nat)(ws:List (List Int)):Prop :=
 ∀(p:List Int),p.length=k→AU p (c.beach.winds.take k)=true→∀(a:α) (L L1:AA) (rs:List AA) (cc dd:Nat) (fr:Fr) (t:List Int),Lv a L cc→Ls c f caps g2 g3 g4 g5 g10 t L1→G6 (L1::rs)→g10<cc→γ0<cc→t.length=c.beach.winds.length→t.take k=p →
  ∃L' L1' c' t',Lv ((O5 c.beach ws p).foldl step a) L' c'∧Ls c f caps g2 g3 g4 g5 g10 t' L1'∧cc≤c'∧t'.length=c.beach.winds.length∧t'.take k=p ∧
   ∀n,nO Tryz.prog (some dd) fr Tryz.f123.results.toList (AE Tryz.prog ann kn (n+M) 50 AB1 ⟨cc,AF 0 [i k,.ptr 1 4 g4 0,.ptr 1 2 g2 0,.ptr 1 5 g5 0,.ptr 1 3 g3 0],⟨L::L1::rs,[]⟩⟩)=sB (some dd) fr c' (.tup []) (CX (L'::L1'::rs))
theorem lTs(hlv:∀a L k,Lv a L k→∀t:St,1≤t.up.length→AL t L=L)(g2 g3 g4 g5 g10 W k:Nat)(hkl:k<c.beach.winds.length)(h5:c.beach.winds.length≤100)(ws:List (List Int))(p:List Int)(hp:p.length=k)(hpl:AU p (c.beach.winds.take k)=true)
  (hrec:A4V c Lv step f caps γ0 g2 g3 g4 g5 g10 (W+4000) (k+1) ws) (rs:List AA) (xs:List Int) (hxs:xs=c.beach.winds[k]) (hlen:xs.length≤100) (v2 v4:V) :
  ∀(e j:Nat) (a:α) (L L1:AA) (cc:Nat) (t:List Int),j+e=xs.length→Lv a L cc→Ls c f caps g2 g3 g4 g5 g10 t L1→G6 (L1::rs)→g10<cc→γ0<cc→t.length=c.beach.winds.length→t.take k=p →
  ∃(fr0:Fr) (L' L1':AA) (c':Nat) (t':List Int),Lv (((xs.drop j).flatMap fun x=>O5 c.beach ws (p++[x])).foldl step a) L' c'∧Ls c f caps g2 g3 g4 g5 g10 t' L1'∧cc≤c'∧t'.length=c.beach.winds.length∧t'.take k=p ∧
   ∀n m,e<m→BC (AE Tryz.prog ann kn (n+W+4053) 50) S5 (ann 50 (BR S5)) m ⟨cc,[(0,true,i k),(1,true,.ptr 1 4 g4 0),(3,true,.ptr 1 5 g5 0),(19,true,li xs),(20,true,i xs.length),(21,true,i j)],⟨L::L1::rs,[]⟩⟩ =
    some (.exit 0,⟨c',fr0,⟨L'::L1'::rs,[]⟩⟩)
 |0,j,a,L,L1,cc,t,hd,hL,hL1,hst,hc,hc0,htl,htk=>by
  have:j=xs.length:=by omega
  subst this;refine⟨?fr,L,L1,cc,t,by simpa using hL,hL1,by omega,htl,htk,fun n m hm=>?g⟩;case g=>
   obtain⟨m,rfl⟩:∃m',m=m'+1:=⟨m-1,by omega⟩
   rw[AC]
   simp
   rfl
 |e+1,j,a,L,L1,cc,t,hd,hL,hL1,hst,hc,hc0,htl,htk=>by
  have hL1o:=hL1;obtain⟨p2,p3,p4,p5,p10,pst⟩:=hL1;have hj:j<xs.length:=by omega
  have hw:=BH (k:=j) (by omega);have hwk:=BH (k:=k) (by omega);have hxm:xs[j]∈c.beach.winds[k]:=by rw[←hxs];exact List.getElem_mem hj
  have hL1':=Ls.set hL1o (k:=k) xs[j];obtain⟨L2,L3,c2,t2,r1,r2,r3,r4,r5,r6⟩:=hrec (p++[xs[j]]) (by simp[hp]) (V2 hpl hkl hxm) a L _ (rs++[[]]) cc 32 [(31,true,i ((k:Int)+1)),(30,true,i k),(29,true,.fn 123 [] [.ptr 1 4 g4 0,.ptr 1 2 g2 0,.ptr 1 5 g5 0,.ptr 1 3 g3 0]),
   (0,true,i k),(1,true,.ptr 1 4 g4 0),(3,true,.ptr 1 5 g5 0),(19,true,li xs),(20,true,i xs.length),(21,true,i j)] (t.set k xs[j]) hL hL1' (by have:=oZ (loc:=[]) (dB hst hL1'.st) (fun _ _=>rfl); rwa [List.cons_append]at this) (by omega) (by omega) (by simpa using htl) (jZ htk (by omega))
  have hca:=fun n=>A7 (A:=ann) (kn:=kn) (n:=n+W+4046) Tryz.func123 b123 rfl (args:=[i ((k:Int)+1),.ptr 1 4 g4 0,.ptr 1 2 g2 0,.ptr 1 5 g5 0,.ptr 1 3 g3 0]) (by simp) (some 32) cc [(31,true,i ((k:Int)+1)),(30,true,i k),(29,true,.fn 123 [] [.ptr 1 4 g4 0,.ptr 1 2 g2 0,.ptr 1 5 g5 0,.ptr 1 3 g3 0]),
   (0,true,i k),(1,true,.ptr 1 4 g4 0),(3,true,.ptr 1 5 g5 0),(19,true,li xs),(20,true,i xs.length),(21,true,i j)] (L :: ((10,g10,.vec 3 ((t.map AH).set k (AH xs[j]))) :: L1) :: rs) []
  have r6':=fun n=>r6 (n+46);have e46:∀n,n+46+(W+4000)=n+W+4046:=fun n=>by omega
  simp only[e46]at r6';have hcb:=fun n=>by have h1:=hca n;rw[List.cons_append,List.cons_append]at h1;exact h1.trans ((r6' n).trans (by rw[←List.cons_append,←List.cons_append,D4]))
  have hfl:(xs.drop j).flatMap (fun x=>O5 c.beach ws (p++[x]))=O5 c.beach ws (p++[xs[j]])++(xs.drop (j+1)).flatMap (fun x=>O5 c.beach ws (p++[x])):=by rw[List.drop_eq_getElem_cons hj,List.flatMap_cons]
  obtain⟨fr0,L',L1',c',t',i1,i2,i3,i4,i5,ih⟩:=lTs hlv g2 g3 g4 g5 g10 W k hkl h5 ws p hp hpl hrec rs xs hxs hlen v2 v4 e (j+1) ((O5 c.beach ws (p++[xs[j]])).foldl step a) L2 L3 c2 t2 (by omega) r1 r2 (dB hst r2.st) (by omega) (by omega) r4 (UV r5 hp);rw[hfl,List.foldl_append];refine⟨fr0,L',L1',c',t',i1,i2,by omega,i4,i5,fun n m hm=>?_⟩;obtain⟨m,rfl⟩:∃m',m=m'+1:=⟨m-1,by omega⟩;have ih:=ih n m (by omega);have hcb:=hcb n;rw[AC];simp only[AH]at hcb ih⊢;simp at hcb ih;simp[hj,hw,hwk,AH,p2,p3,p4,p5,p10,htl,hkl,hc,IE,hcb,ih]
theorem kTs(hc:DW c)(hmo:∀a L k k',Lv a L k→k≤k'→Lv a L k')(hlv:∀a L k,Lv a L k→∀t:St,1≤t.up.length→AL t L=L)(hs:vE c Lv step f caps γ0 N0)(hcw:caps.map weakV=caps)(g2 g3 g4 g5 g10:Nat):∀(ws:List (List Int)) (k:Nat),c.beach.winds.drop k=ws→k≤c.beach.winds.length→A4V c Lv step f caps γ0 g2 g3 g4 g5 g10 (N0+60*ws.length+4000) k ws
 |[],k,hw,hk=>by
  intro p hp hpl a L L1 rs cc dd fr t hL hL1 hst hc1 hc0 htl htk;have hL1o:=hL1;obtain⟨p2,p3,p4,p5,p10,pst⟩:=hL1;have hkn:k=c.beach.winds.length:=by have:=congrArg List.length hw;simp at this;omega
  have he:p=t:=by rw[←htk,List.take_of_length_le (by omega)]
  subst he;have hb:=hc.be;have hlis:AU p c.beach.winds=true:=by rwa [hkn,List.take_length]at hpl
  have qt:=fun n=>oA n c.beach hb.w40 p;rw[JV hb]at qt;simp only[decide_true,Bool.true_and]at qt;have hki:decide ((k:Int)<(c.beach.winds.length:Int))=false:=by simp;omega
  have hrs:∀t:St,rs.length+2≤t.up.length→rs.map (AL t)=rs:=fun t h=>by have:=hst t (by simpa using h);simp only[List.map_cons,List.cons.injEq]at this;exact this.2
  have hl2:=hlv _ _ _ hL;simp only[O5];cases hr:CS c.beach p with
  |false=>
   rw[hr]at qt
   refine⟨L,L1,cc,p,by simpa using hL,hL1o,Nat.le_refl _,htl,htk,fun n=>?_⟩
   simp only[AD,AB]at qt p2⊢
   simp[AB1,AF,AH,AM,AG,p2,p3,p4,p5,p10,htl,hki,hkn,qt,hl2,pst,hrs,←Nat.add_assoc]
   done
  |true=>
   rw[hr]at qt
   have hall:QU L L1 rs []:=fun t ht=>⟨⟨hl2 t (by omega),pst t (by omega),hrs t (by omega)⟩,rfl⟩
   obtain⟨c1,hc2,q8⟩:=yP L L1 rs [] g10 c.beach hb c.plan hc.pl p hlis p10 hall cc 44 [(43,true,.vec 1 10 g10 p.length),(42,true,GN c.plan),(41,true,.ptr 1 2 g2 9),(40,true,.agg (AB c.beach)),(39,true,.ptr 1 2 g2 0),(1,true,.ptr 1 4 g4 0),(2,true,.ptr 1 2 g2 0),(4,true,.ptr 1 3 g3 0)]
   obtain⟨L',c',s1,s2,s3⟩:=hs a L L1 rs c1 [(48,true,.list false ((E3 c p).map BF)),(47,true,.fn f [] caps),(4,true,.ptr 1 3 g3 0),(8,true,.list false ((E3 c p).map BF))] p (hmo _ _ _ _ hL hc2) (by omega) hr hall
   refine⟨L',L1,c',p,by simpa using s1,hL1o,by omega,htl,htk,fun n=>?_⟩
   have hl3:=hlv _ _ _ s1
   have s4:=fun n=>s3 (n+3995)
   simp only[Nat.add_right_comm _ 3995 N0]at s4
   have hne:DH c.beach c.plan p c.beach.rows.toNat≠[]:=fun e=>by have e2:=congrArg List.length e;have e3:=hb.ro;simp[DH]at e2;omega
   rw[slX hne,htl]at q8
   simp only[E3]at s4
   generalize DH c.beach c.plan p c.beach.rows.toNat=H at *
   simp only[AD,AB]at qt p2 q8 s4⊢
   simp[AB1,AF,AH,AM,AG,p2,p3,p4,p5,p10,htl,hki,hkn,qt,q8,s4,hcw,hl2,hl3,pst,hrs,←Nat.add_assoc]
   done
 |l::ws,k,hw,hk=>by
  intro p hp hpl a L L1 rs cc dd fr t hL hL1 hst hc1 hc0 htl htk;have hL1o:=hL1;obtain⟨p2,p3,p4,p5,p10,pst⟩:=hL1;have hkl:k<c.beach.winds.length:=by have:=congrArg List.length hw;simp at this;omega
  rw[List.drop_eq_getElem_cons hkl]at hw;cases hw;have hb:=hc.be;have h5:=hb.hl;have hx4:=hb.wl _ (List.getElem_mem hkl);have hki:decide ((k:Int)<(c.beach.winds.length:Int))=true:=by simp;omega
  have hrs:∀t:St,rs.length+2≤t.up.length→rs.map (AL t)=rs:=fun t h=>by have:=hst t (by simpa using h);simp only[List.map_cons,List.cons.injEq]at this;exact this.2
  obtain⟨fr0,L',L1',c',t',i1,i2,i3,i4,i5,i6⟩:=lTs hlv g2 g3 g4 g5 g10 (N0+60*(c.beach.winds.drop (k+1)).length) k hkl (by omega) (c.beach.winds.drop (k+1)) p hp hpl (kTs hc hmo hlv hs hcw g2 g3 g4 g5 g10 (c.beach.winds.drop (k+1)) (k+1) rfl (by omega)) rs _ rfl (by omega) (.bool false) (.bool false) (c.beach.winds[k]).length 0 a L L1 cc t (by omega) hL hL1o hst hc1 hc0 htl htk;rw[List.drop_zero]at i1;refine⟨L',L1',c',t',by simpa [O5]using i1,i2,by omega,i4,i5,fun n=>?_⟩;have hl2:=hlv _ _ _ i1;have pst2:=i2.st;rw[List.length_cons,show n+(N0+60*((c.beach.winds.drop (k+1)).length+1)+4000)=n+(N0+60*(c.beach.winds.drop (k+1)).length)+4060 by omega];have i6:=i6 n (n+(N0+60*(c.beach.winds.drop (k+1)).length)+4053) (by omega);generalize n+(N0+60*(c.beach.winds.drop (k+1)).length)=n2 at i6⊢;simp only[AD,AB]at i6 p2⊢;simp at i6;simp[AB1,AF,AH,AM,AG,p2,p3,p4,p5,p10,htl,hki,hkl,pst2,hl2,hrs,i6];done
end
end Go.Proofs.Tryz.Op
namespace Go.Wind
theorem aX{b:AJ}:∀{ws:List (List Int)} {p t:List Int},t∈O5 b ws p↔CS b t=true∧∃q,t=p++q∧AU q ws=true
 |[],p,t=>by
  simp only[O5];by_cases h:CS b p=true
  ·rw[if_pos h,List.mem_singleton];refine⟨fun e=>⟨by rw[e];exact h,[],by rw[e,List.append_nil],rfl⟩,fun ⟨_,q,e,h2⟩=>?_⟩;have hq:q=[]:=List.eq_nil_of_length_eq_zero (BU h2);rw[e,hq,List.append_nil]
  ·rw[if_neg h];refine⟨fun h=>(by cases h),fun ⟨h1,q,e,h2⟩=>?_⟩;have hq:q=[]:=List.eq_nil_of_length_eq_zero (BU h2);rw[e,hq,List.append_nil]at h1;exact absurd h1 h
 |l::r,p,t=>by
  simp only[O5,List.mem_flatMap];constructor
  ·rintro ⟨x,hx,h⟩;obtain⟨h1,q,e,h2⟩:=aX.1 h;refine⟨h1,x::q,by rw[e,List.append_assoc];rfl,?_⟩;simp only[AU,Bool.and_eq_true];exact⟨by simpa using hx,h2⟩
  ·rintro ⟨h1,q,e,h2⟩;cases q with
   |nil=>simp[AU]at h2
   |cons x q=>
    simp only[AU,Bool.and_eq_true]at h2
    exact⟨x,by simpa using h2.1,aX.2 ⟨h1,q,by rw[e,List.append_assoc];rfl,h2.2⟩⟩
def D9(b:AJ):List (List Int):=O5 b b.winds []
theorem mW{b:AJ}{t:List Int}:t∈D9 b↔CS b t=true:=by unfold D9;rw[aX];refine⟨fun h=>h.1,fun h=>⟨h,t,rfl,?_⟩⟩;exact E5 (GI.2 h)
end Go.Wind
namespace Go.Proofs.Tryz.Op
theorem mX{α:Type}{c:A3}(hc:DW c){Lv:α→AA→Nat→Prop}{step:α→List Int→α}{f:FuncId}{caps:List V}{γ0 N0:Nat}(hmo:∀a L k k',Lv a L k→k≤k'→Lv a L k')(hlv:∀a L k,Lv a L k→∀t:St,1≤t.up.length→AL t L=L)(hs:vE c Lv step f caps γ0 N0)(hcw:caps.map weakV=caps)(hcl:∀t:St,1≤t.up.length→PC (A2 t 3) caps=some caps)(hco:∃x,x∈caps∧AK 8 x=false)(a:α)(L:AA)(g:Nat)(hL:Lv a L g)(d:Nat)(hg:γ0<g)(fr:Fr) :
  ∃L' c',Lv ((D9 c.beach).foldl step a) L' c'∧g≤c'∧∀n,G4 (BN Tryz.prog ann kn (n+N0+5000)) (some d) ⟨g,fr,⟨[],L⟩⟩ 78 [.agg (AD c),.fn f [] caps]=some ⟨c',(d,true,.tup [])::fr,⟨[],L'⟩⟩:=by
 have hb:=hc.be
 have h5:=hb.hl
 have hla:=hb.la
 have hwi:=hb.wi
 let L1:AA:=[(2,g,.box (AD c)),(3,g+1,.box [.fn f [] caps]),(4,g+3,.box [.vec 1 10 (g+2) c.beach.winds.length]),
  (5,g+4,.box [.fn 123 [] [.ptr 1 4 (g+3) 0,.ptr 1 2 g 0,.ptr 1 5 (g+4) 0,.ptr 1 3 (g+1) 0]]),(10,g+2,.vec 3 ((List.replicate c.beach.winds.length 0).map AH))]
 have hL1:Ls c f caps g (g+1) (g+3) (g+4) (g+2) (List.replicate c.beach.winds.length 0) L1:=by
  refine⟨rfl,rfl,rfl,rfl,rfl,fun t ht=>?_⟩;have hcl:=hcl t (by omega);have e0:¬0=t.up.length:=by omega
  have e1:¬1=t.up.length:=by omega
  obtain⟨up,loc⟩:=t;simp only at e0 e1;simp only[L1,A5,C5,FW];simp[e0,e1,AD,AH,AM,AG,AR,A0,AO,hcl]
 obtain⟨L',L1',c',t',r1,r2,r3,r4,r5,r6⟩:=kTs hc hmo hlv hs hcw g (g+1) (g+3) (g+4) (g+2) c.beach.winds 0 rfl (by omega) [] rfl rfl a L L1 [] (g+5) 13 [(12,true,.fn 123 [] [.ptr 1 4 (g+3) 0,.ptr 1 2 g 0,.ptr 1 5 (g+4) 0,.ptr 1 3 (g+1) 0]),(5,true,.ptr 1 5 (g+4) 0)]
  (List.replicate c.beach.winds.length 0) (hmo _ _ _ _ hL (by omega)) hL1 (by intro t ht;simp only[List.map_cons,List.map_nil,hL1.st t (by simpa using ht)]) (by omega) (by omega) (by simp) (by simp)
 refine⟨L',c',r1,by omega,fun n=>?_⟩
 have hl2:=hlv _ _ _ r1
 rw[A7 Tryz.func78 b78 rfl (by simp;exact fun _=>hco)]
 have m1:c.beach.winds.length*8≤140737488355328:=by omega
 have m2:c.beach.winds.length≤maxLen:=by unfold maxLen;omega
 have r6:=r6 (n+995-60*c.beach.winds.length)
 have hca:=A7 (A:=ann) (kn:=kn) (n:=n+N0+4995) Tryz.func123 b123 rfl (args:=[i ((0:Nat):Int),.ptr 1 4 (g+3) 0,.ptr 1 2 g 0,.ptr 1 5 (g+4) 0,.ptr 1 3 (g+1) 0]) (by simp) (some 13) (g+5) [(12,true,.fn 123 [] [.ptr 1 4 (g+3) 0,.ptr 1 2 g 0,.ptr 1 5 (g+4) 0,.ptr 1 3 (g+1) 0]),(5,true,.ptr 1 5 (g+4) 0)] [L] L1
 rw[show n+995-60*c.beach.winds.length+(N0+60*c.beach.winds.length+4000)=n+N0+4995 by omega]at r6
 have hca:=hca.trans (r6.trans rfl)
 generalize n+N0=n2 at hca⊢
 have z1:(List.replicate c.beach.winds.length (0:Int)).map AH=List.replicate c.beach.winds.length [V.int IntKind.i64 0]:=by simp[AH]
 simp only[L1,z1,AD]at hca⊢
 simp at hca
 simp[c78,AF,m1,m2,Nat.add_assoc,hca,hl2]
 done
end Go.Proofs.Tryz.Op
