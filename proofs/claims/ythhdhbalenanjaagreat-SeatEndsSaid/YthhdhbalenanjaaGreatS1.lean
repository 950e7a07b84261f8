/- Contracts: asked; the way to the truths of a case. No condition but lists of at most 40. -/
import Derived.Test.YthhdhbalenanjaaGreatC1
import Derived.Test.YthhdhbalenanjaaGreatFz
import Derived.Test.YthhdhbalenanjaaGreatW4
import Derived.Test.YthhdhbalenanjaaGreatN1
set_option maxRecDepth 100000
set_option linter.unusedSimpArgs false
open Go Go.Pg Go.Proofs Go.Wind
namespace Go.Proofs.Tryz.Op
def F1(c:A0)(ss:List (Int×Int)):Int:=if EJ c≠0 then EJ c else if EP c ss=true then 0 else 2
theorem AJT(n:Nat)(c:A0)(h40:∀l∈c.beach.winds,l.length≤40)(hch:c.chairs.length≤40)(ss:List (Int×Int)):AW Tryz.prog kn (AE Tryz.prog ann kn (n+8400)) 77 [.agg (AD c),.list false (ss.map AF)]=some (.tup [sl ((if F1 c ss=0 then BA c ss else[]).map A1),i (F1 c ss)]):=by
 rw[AP rfl,AO Tryz.func77 b77 rfl (by simp[AD,AH,AL,AF,AR,AY,AQ])];have slnil:sl ([]:List (List V))=.nil:=rfl;have qc:=fun n=>oB n c h40 hch;by_cases h:EJ c=0
 ·have hc:=PD h;have qs:=fun n=>AOV n c hc ss;have hsv:(NR c ss).2=EP c ss:=by unfold NR EP;by_cases hs:ss.length=c.fams.length<;>simp[hs]
  rw[hsv]at qs;rw[h]at qc;by_cases hs:EP c ss=true
  ·rw[hs]at qs;rw[show F1 c ss=0 by simp[F1,h,hs],if_pos rfl];have hsp:(NR c ss).1=BA c ss:=by unfold NR;rw[if_pos (GU hc hs).1]
   rw[hsp]at qs;have hcl:∀e∈(BA c ss).map A1,∀v∈e,AK 7 v=true:=fun e he v hv=>by obtain⟨l,_,rfl⟩:=List.mem_map.1 he;simp only[A1,List.mem_cons,List.not_mem_nil,or_false]at hv;rcases hv with rfl|rfl|rfl|rfl<;>rfl
   generalize (BA c ss).map A1=O at *;simp only[AD,AC]at qc qs⊢;simp[c77,AG,slnil,qc,qs,AF,AR,AY,AQ];exact hcl
  ·have hs:EP c ss=false:=by simpa using hs
   rw[hs]at qs;rw[show F1 c ss=2 by simp[F1,h,hs],if_neg (by decide)];generalize (NR c ss).1=L at *;simp only[AD,AC]at qc qs⊢;simp[c77,AG,slnil,qc,qs,AF,AR,AY,AQ,A1]
 ·rw[show F1 c ss=EJ c by simp[F1,h],if_neg h];generalize EJ c=E at *;simp only[AD]at qc⊢;simp[c77,AG,slnil,qc,h,AF,AR,AY,AQ]
theorem BFK{α:Type}(rs:List α)(x:α)(f:α→α):(rs++[x]).modify rs.length f=rs++[f x]:=by
 induction rs with
 |nil=>rfl
 |cons y ys ih=>simpa [List.modify_succ_cons]using ih
theorem W6{α:Type}(a:α)(r:List α)(x:α):C5 (a::(r++[x]))=some (a::r,x):=EY x (a::r)
theorem GV.c1{L L1:AA}{rs:List AA}(h:GV (L::L1::rs))(t:St)(ht:rs.length+3≤t.up.length):AN t L=L:=by have:=h t (by simpa using ht);simp only[List.map_cons,List.cons.injEq]at this;exact this.1
theorem GV.c2{L L1:AA}{rs:List AA}(h:GV (L::L1::rs))(t:St)(ht:rs.length+3≤t.up.length):AN t L1=L1:=by have:=h t (by simpa using ht);simp only[List.map_cons,List.cons.injEq]at this;exact this.2.1
theorem GV.c3{L L1:AA}{rs:List AA}(h:GV (L::L1::rs))(t:St)(ht:rs.length+3≤t.up.length):rs.map (AN t)=rs:=by have:=h t (by simpa using ht);simp only[List.map_cons,List.cons.injEq]at this;exact this.2.2
theorem A37(L L1:AA)(rs0:List AA)(g3:Nat)(hU:GV (L::L1::rs0))(c γ p:Nat)(B:AX)(rest:AA)(rs:List FW)(hB:∀t,CK t B=B)(hr:∀t,AN t rest=rest)(hp:p<rs.length)(hγ:γ<c)(y:FW)(w1:IntKind.i64.wrap (rs[p].sun+y.sun)=rs[p].sun+y.sun)(w2:IntKind.i64.wrap (rs[p].calm+y.calm)=rs[p].calm+y.calm)(w3:IntKind.i64.wrap (rs[p].good+y.good)=rs[p].good+y.good):∃X1 X2,∀(n d:Nat) (fr:Fr),H9 (BN Tryz.prog ann kn (n+100)) (some d) ⟨c,fr,⟨L::L1::rs0,(3,g3,B)::(20,γ,.vec 155 (rs.map CH))::rest⟩⟩ 152 [.eptr (rs0.length+2) 20 γ p 0,.agg [i y.sun,i y.calm,i y.good]] =
  some ⟨c+1,(d,true,.tup [])::fr,⟨L::L1::rs0,(20,γ,.vec 155 ((rs.set p (zC rs[p] y)).map CH))::(20,γ,X1)::(20,γ,X2)::(3,g3,B)::(20,γ,.vec 155 (rs.map CH))::rest⟩⟩:=by
 refine⟨.vec 155 ((rs.set p ⟨rs[p].sun+y.sun,rs[p].calm+y.calm,rs[p].good⟩).map CH),.vec 155 ((rs.set p ⟨rs[p].sun+y.sun,rs[p].calm,rs[p].good⟩).map CH),fun n d fr=>?_⟩
 rw[BG Tryz.func152 b152 rfl (by simp[show AK 9 (V.eptr (rs0.length+2) 20 γ p 0)=false from rfl])]
 have hg:γ<c+1:=by omega
 have h1:=fun t h=>hU.c1 t h
 have h2:=fun t h=>hU.c2 t h
 have h3:=fun t h=>hU.c3 t h
 have e:(rs.map CH).set p [i (rs[p].sun+y.sun),i (rs[p].calm+y.calm),i (rs[p].good+y.good)]=(rs.set p (zC rs[p] y)).map CH:=AKV rs p _ _ _
 rw[←e]
 rw[←AKV,←AKV]
 generalize hz:(some _:Option XS)=Z
 simp[A1C,AG,CH,hp,hg,w1,w2,w3,KA,BFK,W6,h1,h2,h3]
 simp only[AKV,A8H,hB,hr]at hz⊢
 exact hz
theorem uO(L L1:AA)(rs0:List AA)(EL g3:Nat)(v6:V)(b:AJ)(hb:Valid b)(plan:List (List Int))(hp:E6 b plan)(t:List Int)(ht:AV t b.winds=true)(h10:L1.get 10=some (EL,.vec 3 (t.map AH)))(hU:GV (L::L1::rs0))(r p:Nat)(hr:(r:Int)<b.rows)(hp2:(p:Int)<b.places)(A:List (List FW))(tot:Int)(γ3:Nat):∀(d h c γ:Nat) (rs:List FW),h+d=t.length→(rs.length:Int)=b.places→rs[p]? = some (FD (IY b plan t r p) (IH b plan r) h)→γ<c→∀n m,d<m→A9 (AE Tryz.prog ann kn (n+1400) 67) R9 (ann 67 (BS R9)) m ⟨c,[(1,true,GQ plan),(2,true,.vec 1 10 EL t.length),(3,true,.ptr (rs0.length+2) 3 g3 0),(6,true,v6),(7,true,i tot),(8,true,i r),(9,true,.vec (rs0.length+2) 20 γ rs.length),(10,true,i p),(14,true,i b.rows),(15,true,i r),(22,true,i rs.length),(23,true,i p),(26,true,.vec 1 10 EL t.length),(27,true,i t.length),(28,true,i h)],⟨L::L1::rs0,(3,g3,.box (AC b))::(20,γ,.vec 155 (rs.map CH))::pl 63 γ3 156 (A.map BO)⟩⟩ =
  some (.exit 4,⟨c+d,[(29,true,.bool false),(1,true,GQ plan),(2,true,.vec 1 10 EL t.length),(3,true,.ptr (rs0.length+2) 3 g3 0),(6,true,v6),(7,true,i tot),(8,true,i r),(9,true,.vec (rs0.length+2) 20 γ rs.length),(10,true,i p),(14,true,i b.rows),(15,true,i r),(22,true,i rs.length),(23,true,i p),(26,true,.vec 1 10 EL t.length),(27,true,i t.length),(28,true,i t.length)],⟨L::L1::rs0,(3,g3,.box (AC b))::(20,γ,.vec 155 ((rs.set p (DD b plan t r p)).map CH))::pl 63 γ3 156 (A.map BO)⟩⟩)
 |0,h,c,γ,rs,hd,hl,e,hγ,n,m+1,hm=>by
  have:h=t.length:=by omega
  subst this;have:rs.set p (DD b plan t r p)=rs:=by
   have hpl:p<rs.length:=by omega
   rw[List.getElem?_eq_getElem hpl,Option.some.injEq]at e;unfold DD;rw[←e];exact List.set_getElem_self hpl
  rw[this,AB];simp[AC]
 |d+1,h,c,γ,rs,hd,hl,e,hγ,n,m+1,hm=>by
  have hd':h<t.length:=by omega
  have hw:=BJ (k:=h) (by have:=BZ ht;have:=hb.hl;omega);have hlw:=BZ ht;have hwi:=hb.wi;have hsu:=hb.su;have hpn:=hp.len;have hh:h<plan.length:=by omega
  have hpe:plan.getD h []=plan[h]:=by rw[List.getD_eq_getElem?_getD,List.getElem?_eq_getElem hh];rfl
  have hr2:r<plan[h].length:=by have:=hp.row h hh;rw[hpe]at this;omega
  have hx:CB plan h r=plan[h][r]:=by unfold CB;rw[hpe,List.getD_eq_getElem?_getD,List.getElem?_eq_getElem hr2];rfl
  have htd:t.getD h 0=t[h]:=by rw[List.getD_eq_getElem?_getD,List.getElem?_eq_getElem hd'];rfl
  have hdir:=MD hb ht hd';rw[htd,DS]at hdir;have hro:=hb.ro;have hpc:=hb.pl;have q:=fun n=>kOf n b hb (r,p) (by simp only;omega) h (by omega) (CB plan h r) t[h] hdir;rw[hx]at q;have hpl:p<rs.length:=by omega
  rw[List.getElem?_eq_getElem hpl,Option.some.injEq]at e;have st:=AFS b plan t r p h;rw[hx,htd,←e]at st;have b1:=aZ (IY b plan t r p) (IH b plan r) h;have b2:=A8I b (r,p) h plan[h][r] t[h];rw[←e]at b1;have hh5:h≤5:=by have:=hb.la;omega
  generalize bK b (r,p) h plan[h][r] t[h]=y at q st b2;obtain⟨X1,X2,q2⟩:=A37 L L1 rs0 g3 hU c γ p (.box (AC b)) (pl 63 γ3 156 (A.map BO)) rs (fun t=>AOK t b) (fun t=>AUE t 63 γ3 156 _ (AKW t A)) hpl hγ y (AS (by omega) (by omega)) (AS (by omega) (by omega)) (AS (by omega) (by omega));have ih:=uO L L1 rs0 EL g3 v6 b hb plan hp t ht h10 hU r p hr hp2 A tot γ3 d (h+1) (c+1) γ (rs.set p (zC rs[p] y)) (by omega) (by simpa using hl) (by rw[List.getElem?_set_self hpl,st]) (by omega) n m (by omega);rw[List.set_set]at ih;generalize rs.set p (DD b plan t r p)=F at ih⊢;generalize hR:rs.set p (zC rs[p] y)=R at ih q2;have hRl:R.length=rs.length:=by rw[←hR];simp
  have hc':c+1+d=c+(d+1):=by omega
  rw[hRl,hc']at ih;rw[AB];simp only[AC,AF]at q q2 ih⊢;simp at ih;simp[h10,hd',hw,AH,AL,hh,hr2,q,AF,CH,E1,hpl,q2,ih]
theorem uP(L L1:AA)(rs0:List AA)(EL g3:Nat)(v6:V)(b:AJ)(hb:Valid b)(plan:List (List Int))(hp:E6 b plan)(t:List Int)(ht:AV t b.winds=true)(h10:L1.get 10=some (EL,.vec 3 (t.map AH)))(hU:GV (L::L1::rs0))(r:Nat)(hr:(r:Int)<b.rows)(A:List (List FW))(tot:Int)(htot:0≤tot∧tot≤1000)(γ3 γ:Nat):∀(d p c:Nat),p+d=b.places.toNat→γ<c→∃c',γ<c'∧∀n m,d<m→A9 (AE Tryz.prog ann kn (n+1600) 67) SA (ann 67 (BS SA)) m ⟨c,[(1,true,GQ plan),(2,true,.vec 1 10 EL t.length),(3,true,.ptr (rs0.length+2) 3 g3 0),(6,true,v6),(7,true,i (tot+E7 b plan t r p)),(8,true,i r),(9,true,.vec (rs0.length+2) 20 γ b.places.toNat),(14,true,i b.rows),(15,true,i r),(22,true,i b.places.toNat),(23,true,i p)],⟨L::L1::rs0,(3,g3,.box (AC b))::(20,γ,.vec 155 ((L7 b plan t r p).map CH))::pl 63 γ3 156 (A.map BO)⟩⟩ =
  some (.exit 2,⟨c',[(24,true,.bool false),(1,true,GQ plan),(2,true,.vec 1 10 EL t.length),(3,true,.ptr (rs0.length+2) 3 g3 0),(6,true,v6),(7,true,i (tot+E7 b plan t r b.places.toNat)),(8,true,i r),(9,true,.vec (rs0.length+2) 20 γ b.places.toNat),(14,true,i b.rows),(15,true,i r),(22,true,i b.places.toNat),(23,true,i b.places.toNat)],⟨L::L1::rs0,(3,g3,.box (AC b))::(20,γ,.vec 155 ((UB b plan t r).map CH))::pl 63 γ3 156 (A.map BO)⟩⟩)
 |0,p,c,hd,hγ=>by
  have:p=b.places.toNat:=by omega
  subst this;refine⟨c,hγ,fun n m hm=>?_⟩;obtain⟨m,rfl⟩:∃m',m=m'+1:=⟨m-1,by omega⟩;rw[zD,AB];simp[AC]
 |d+1,p,c,hd,hγ=>by
  have hpc:=hb.pl;have hla:=hb.la;have hlw:=BZ ht;have hwi:=hb.wi;have hw:=BJ (k:=p) (by omega);have hp':p<b.places.toNat:=by omega
  obtain⟨c',h1,ih⟩:=uP L L1 rs0 EL g3 v6 b hb plan hp t ht h10 hU r hr A tot htot γ3 γ d (p+1) (c+t.length) (by omega) (by omega);have q:=uO L L1 rs0 EL g3 v6 b hb plan hp t ht h10 hU r p hr (by omega) A (tot+E7 b plan t r p) γ3 t.length 0 c γ (L7 b plan t r p) (by omega) (by rw[UC];omega) (AFT hp') hγ;rw[nP,UC]at q;have q:=fun n m=>q n (m+100) (by omega);have hg:(L7 b plan t r (p+1))[p]? = some (DD b plan t r p):=by rw[←nP,List.getElem?_set_self (by rw[UC];exact hp')]
  have hl:=UC b plan t r (p+1);have b1:=VR b plan t r p;have b2:=aZ (IY b plan t r p) (IH b plan r) t.length;have b3:(p:Int)*t.length≤5*5:=Int.mul_le_mul (by omega) (by omega) (by omega) (by omega);have e1:tot+E7 b plan t r (p+1)=tot+E7 b plan t r p+(DD b plan t r p).good:=by simp only[E7];omega
  have hwt:IntKind.i64.wrap (tot+E7 b plan t r p+(DD b plan t r p).good)=tot+E7 b plan t r p+(DD b plan t r p).good:=AS (by unfold DD;omega) (by unfold DD;omega);rw[e1]at ih;refine⟨c',h1,fun n m hm=>?_⟩;obtain⟨m,rfl⟩:∃m',m=m'+1:=⟨m-1,by omega⟩;have ih:=ih n m (by omega);generalize L7 b plan t r (p+1)=R at ih q hg hl;generalize L7 b plan t r p=R0 at q⊢;have hgl:p<R.length:=by omega
  rw[List.getElem?_eq_getElem hgl,Option.some.injEq]at hg;generalize DD b plan t r p=y at *;generalize E7 b plan t r b.places.toNat=TT at ih⊢;generalize UB b plan t r=RR at ih⊢;generalize b.places.toNat=PP at hp' hl ih q⊢;rw[AB];simp only[AC]at q ih⊢;simp at ih q;have hle:PP≤R.length:=by omega
  simp[h10,hp',hw,hwt,hgl,hle,hg,CH,E1,q,ih]
def pvl(l k γ:Nat):List (List V)→V
 |[]=>.nil
 |_::es=>.vec l k γ (es.length+1)
theorem aN(l k γ:Nat):pvl l k γ []=.nil:=rfl
theorem RD(l k γ:Nat)(e:List V)(es:List (List V)):pvl l k γ (e::es)=.vec l k γ (es.length+1):=rfl
theorem BFL:sl []=.nil:=rfl
theorem BFM(e:List V)(es:List (List V)):sl (e::es)=.list false (e::es):=rfl
theorem uQ(L L1:AA)(rs0:List AA)(EL g3:Nat)(b:AJ)(hb:Valid b)(plan:List (List Int))(hp:E6 b plan)(t:List Int)(ht:AV t b.winds=true)(h10:L1.get 10=some (EL,.vec 3 (t.map AH)))(hU:GV (L::L1::rs0)):∀(d r c γ3:Nat),r+d=b.rows.toNat→g3<c→∃fr c' γ',(BQ fr 6=some (true,pvl (rs0.length+2) 63 γ' ((DC b plan t b.rows.toNat).map BO))∧BQ fr 7=some (true,i (HK b plan t b.rows.toNat)))∧c≤c'∧∀n m,d<m→A9 (AE Tryz.prog ann kn (n+1800) 67) SB (ann 67 (BS SB)) m ⟨c,[(1,true,GQ plan),(2,true,.vec 1 10 EL t.length),(3,true,.ptr (rs0.length+2) 3 g3 0),(6,true,pvl (rs0.length+2) 63 γ3 ((DC b plan t r).map BO)),(7,true,i (HK b plan t r)),(14,true,i b.rows),(15,true,i r)],⟨L::L1::rs0,(3,g3,.box (AC b))::pl 63 γ3 156 ((DC b plan t r).map BO)⟩⟩ =
  some (.exit 0,⟨c',fr,⟨L::L1::rs0,(3,g3,.box (AC b))::pl 63 γ' 156 ((DC b plan t b.rows.toNat).map BO)⟩⟩)
 |0,r,c,γ3,hd,hc=>by
  have hr:r=b.rows.toNat:=by omega
  have hro:=hb.ro;have hr':b.rows=(r:Int):=by omega
  rw[←hr];generalize (DC b plan t r).map BO=A;refine⟨?fr,c,γ3,?g1,Nat.le_refl _,fun n m hm=>?g2⟩;case g2=>
   obtain⟨m,rfl⟩:∃m',m=m'+1:=⟨m-1,by omega⟩
   rw[AB]
   simp[AC,hr']
   rfl
  case g1=>simp
 |d+1,r,c,γ3,hd,hc=>by
  have hro:=hb.ro;have hpc:=hb.pl;have hw:=BJ (k:=r) (by omega);have hr':(r:Int)<b.rows:=by omega
  have hla:=hb.la;have hlw:=BZ ht;have hwi:=hb.wi;have b1:=eR b hb plan t (by omega) r (by omega);obtain⟨c1,h1,q⟩:=uP L L1 rs0 EL g3 (pvl (rs0.length+2) 63 γ3 ((DC b plan t r).map BO)) b hb plan hp t ht h10 hU r hr' (DC b plan t r) (HK b plan t r) (by omega) γ3 c b.places.toNat 0 (c+1) (by omega) (by omega);have q:=fun n m=>q n (m+100) (by omega);obtain⟨fr,c',γ',e1,hcc,ih⟩:=uQ L L1 rs0 EL g3 b hb plan hp t ht h10 hU d (r+1) (c1+1) c1 (by omega) (by omega);have e:HK b plan t (r+1)=HK b plan t r+E7 b plan t r b.places.toNat:=rfl;have happ:=A8J (k:=((DC b plan t r).map BO).length) (x:=UB b plan t r) (by simp[DC];omega);have hR1:∀e∈(DC b plan t r).map BO,e.length=1:=fun e he=>by obtain⟨l,_,rfl⟩:=List.mem_map.1 he;rfl
  rw[zE]at q;rw[rU,e,List.map_append,List.map_cons,List.map_nil]at ih;refine⟨fr,c',γ',e1,by omega,fun n m hm=>?_⟩;obtain⟨m,rfl⟩:∃m',m=m'+1:=⟨m-1,by omega⟩;have ih:=ih n m (by omega);have h0:E7 b plan t r 0=0:=rfl;rw[h0]at q;generalize DC b plan t b.rows.toNat=FF at ih⊢;generalize E7 b plan t r b.places.toNat=TT at ih q;have hRl:(UB b plan t r).length=b.places.toNat:=by simp[UB]
  generalize UB b plan t r=RR at ih q happ hRl;obtain⟨PP,hPP⟩:∃P:Nat,b.places=P:=⟨b.places.toNat,by omega⟩;have hP2:b.places.toNat=PP:=by omega
  rw[hP2]at q hRl;subst hRl;have htl:∀l o,EW l 20 o (pl 63 γ3 156 ((DC b plan t r).map BO))=pl 63 γ3 156 ((DC b plan t r).map BO):=fun l o=>VJ (by decide) _ _ _ (by simp[BO,CH]);generalize (DC b plan t r).map BO=A at *;rw[AB];simp only[AC,hPP]at q ih⊢;have m1:RR.length*24≤140737488355328:=by omega
  have m2:RR.length≤maxLen:=by simp[maxLen];omega
  have hgc:g3<c+1:=by omega
  cases A with
  |nil=>
   simp[BO,aN,RD]at ih q happ
   simp[CH]at q
   simp[hr',hw,BO,q,ih,happ,m1,m2,hgc,aN,RD,KA]
   done
  |cons a A=>
   have hR2:=hR1 a (by simp)
   have hR3:=eq_true (fun e he=>hR1 e (List.mem_cons_of_mem a he):∀e∈A,e.length=1)
   simp[BO,aN,RD]at ih q happ htl
   simp[CH]at q
   simp[hr',hw,BO,q,ih,happ,m1,m2,hgc,htl,hR2,hR3,aN,RD,KA]
   done
def QM(L L1:AA)(rs:List AA)(loc:AA):Prop:=∀t:St,rs.length+3≤t.up.length→(AN t L=L∧AN t L1=L1∧rs.map (AN t)=rs)∧AN t loc=loc
theorem QM.stays{L L1 loc:AA}{rs:List AA}(h:QM L L1 rs loc):GV (L::L1::(rs++[loc])):=by intro t ht;obtain⟨⟨h1,h2,h3⟩,h4⟩:=h t (by simp at ht;omega);simp only[List.map_cons,List.map_append,List.map_nil,h1,h2,h3,h4]
theorem QM.more{L L1 loc l2:AA}{rs:List AA}(h:QM L L1 rs loc)(h2:∀t:St,rs.length+4≤t.up.length→AN t l2=l2):QM L L1 (rs++[loc]) l2:=by
 intro t ht;have ht:rs.length+4≤t.up.length:=by simp at ht;omega
 obtain⟨⟨h1,h5,h3⟩,h4⟩:=h t (by omega);exact⟨⟨h1,h5,by simp only[List.map_append,List.map_cons,List.map_nil,h3,h4]⟩,h2 t ht⟩
theorem AD6(L L1:AA)(rs:List AA)(loc:AA)(EL:Nat)(b:AJ)(hb:Valid b)(plan:List (List Int))(hp:E6 b plan)(t:List Int)(ht:AV t b.winds=true)(h10:L1.get 10=some (EL,.vec 3 (t.map AH)))(hU:QM L L1 rs loc)(c d:Nat)(fr:Fr):∃c',c≤c'∧∀n,H9 (BN Tryz.prog ann kn (n+2000)) (some d) ⟨c,fr,⟨L::L1::rs,loc⟩⟩ 113 [.agg (AC b),GQ plan,.vec 1 10 EL t.length] =
  some ⟨c',(d,true,.tup [sl ((DC b plan t b.rows.toNat).map BO),i (HK b plan t b.rows.toNat)])::fr,⟨L::L1::rs,loc⟩⟩:=by
 obtain⟨f,c',γ',⟨e1,e2⟩,hc,q⟩:=uQ L L1 (rs++[loc]) EL c b hb plan hp t ht h10 hU.stays b.rows.toNat 0 (c+1) 0 (by omega) (by omega)
 refine⟨c',by omega,fun n=>?_⟩
 have hro:=hb.ro
 have q:=fun n m=>q n (m+100) (by omega)
 have h0:DC b plan t 0=[]:=rfl
 have h1:HK b plan t 0=0:=rfl
 rw[h0,h1]at q
 have hcl:∀e∈(DC b plan t b.rows.toNat).map BO,∀v∈e,AK 7 v=true:=fun e he v hv=>by obtain⟨l,_,rfl⟩:=List.mem_map.1 he;simp only[BO,List.mem_cons,List.not_mem_nil,or_false]at hv;subst hv;simp[CH]
 rw[BG Tryz.func113 b113 rfl (by simp[AC,AH,AL,AF])]
 generalize (DC b plan t b.rows.toNat).map BO=A at *
 generalize HK b plan t b.rows.toNat=TT at *
 simp only[AC]at q⊢
 cases A with
 |nil=>
  simp[aN,RD]at q e1 e2
  simp[APG,AG,q,e1,e2,aN,RD,BFL,W6]
  exact hU _ (by simp)
 |cons a A=>
  simp[aN,RD]at q e1 e2
  simp[APG,AG,q,e1,e2,aN,RD,BFM,W6]
  exact hU _ (by simp)
theorem yB(L L1:AA)(rs:List AA)(loc:AA)(EL:Nat)(b:AJ)(hb:Valid b)(plan:List (List Int))(hp:DK b plan=true)(t:List Int)(ht:AV t b.winds=true)(h10:L1.get 10=some (EL,.vec 3 (t.map AH)))(hU:QM L L1 rs loc)(c d:Nat)(fr:Fr):∃c',c≤c'∧∀n,H9 (BN Tryz.prog ann kn (n+2200)) (some d) ⟨c,fr,⟨L::L1::rs,loc⟩⟩ 66 [.agg (AC b),GQ plan,.vec 1 10 EL t.length] =
  some ⟨c',(d,true,.tup [sl ((DC b plan t b.rows.toNat).map BO),i 0])::fr,⟨L::L1::rs,loc⟩⟩:=by
 have hU2:QM L L1 (rs++[loc]) [(3,c,.box (AC b))]:=hU.more fun t _=>by rw[BE,AOK];rfl
 obtain⟨c',hc,q⟩:=AD6 L L1 (rs++[loc]) [(3,c,.box (AC b))] EL b hb plan (fI hp) t ht h10 hU2 (c+1) 30 [(29,true,.vec 1 10 EL t.length),(28,true,GQ plan),(27,true,.agg (AC b)),(1,true,GQ plan),(2,true,.vec 1 10 EL t.length),(3,true,.ptr (rs.length+3) 3 c 0)]
 refine⟨c',by omega,fun n=>?_⟩
 have q1:=fun n=>VQ n b hb.w40
 have q2:=fun n=>vP n b hb plan
 have q3:=fun n=>eQ n b hb t
 rw[JV hb]at q1
 rw[hp]at q2
 rw[ht]at q3
 rw[BG Tryz.func66 b66 rfl (by simp[AC,AH,AL,AF])]
 have hcl:∀e∈(DC b plan t b.rows.toNat).map BO,∀v∈e,AK 7 v=true:=fun e he v hv=>by obtain⟨l,_,rfl⟩:=List.mem_map.1 he;simp only[BO,List.mem_cons,List.not_mem_nil,or_false]at hv;subst hv;simp[CH]
 generalize (DC b plan t b.rows.toNat).map BO=A at *
 generalize HK b plan t b.rows.toNat=TT at *
 simp only[AC]at q1 q2 q3 q⊢
 simp[c66,AG,AH,AL,AF,q1,q2,q3,q,h10,W6]
 exact hU _ (by simp)
end Go.Proofs.Tryz.Op
namespace Go.Wind
def VI(b:AJ):List (List Int)→List Int→List (List Int)
 |[],p=>if CS b p=true then[p] else[]
 |l::r,p=>l.flatMap fun x=>VI b r (p++[x])
end Go.Wind
namespace Go.Proofs.Tryz.Op
structure Ls(c:A0)(f:FuncId)(caps:List V)(g2 g3 g4 g5 EL:Nat)(t:List Int)(L:AA):Prop where
 p2:L.get 2=some (g2,.box (AD c))
 p3:L.get 3=some (g3,.box [.fn f [] caps])
 p4:L.get 4=some (g4,.box [.vec 1 10 EL c.beach.winds.length])
 p5:L.get 5=some (g5,.box [.fn 123 [] [.ptr 1 4 g4 0,.ptr 1 2 g2 0,.ptr 1 5 g5 0,.ptr 1 3 g3 0]])
 p10:L.get 10=some (EL,.vec 3 (t.map AH))
 st:∀s:St,2≤s.up.length→AN s L=L
theorem Ls.set{c:A0}{f:FuncId}{caps:List V}{g2 g3 g4 g5 EL:Nat}{t:List Int}{L:AA}(h:Ls c f caps g2 g3 g4 g5 EL t L){k:Nat}(x:Int):Ls c f caps g2 g3 g4 g5 EL (t.set k x) ((10,EL,.vec 3 ((t.map AH).set k (AH x)))::L) where
 p2:=by simpa using h.p2
 p3:=by simpa using h.p3
 p4:=by simpa using h.p4
 p5:=by simpa using h.p5
 p10:=by simp[List.map_set]
 st:=by intro s hs;rw[BE,h.st s hs,←YL,H2]
def AD7{α:Type}(c:A0)(Lv:α→AA→Nat→Prop)(step:α→List Int→α)(f:FuncId)(caps:List V)(γ0 N0:Nat):Prop :=
 ∀(a:α) (L L1:AA) (rs:List AA) (cc:Nat) (fr:Fr) (t:List Int),Lv a L cc→γ0<cc→CS c.beach t=true→QM L L1 rs [] →
  ∃L' c',Lv (step a t) L' c'∧cc≤c'∧∀n,H9 (BN Tryz.prog ann kn (n+N0)) (some 49) ⟨cc,fr,⟨L::L1::rs,[]⟩⟩ f (.list false ((HY c t).map BO)::caps)=some ⟨c',(49,true,.tup [])::fr,⟨L'::L1::rs,[]⟩⟩
section
variable {α:Type}{c:A0}{Lv:α→AA→Nat→Prop}{step:α→List Int→α}{f:FuncId}{caps:List V}{γ0 N0:Nat}
def A38(c:A0)(Lv:α→AA→Nat→Prop)(step:α→List Int→α)(f:FuncId)(caps:List V)(γ0 g2 g3 g4 g5 EL M k:Nat)(ws:List (List Int)):Prop :=
 ∀(p:List Int),p.length=k→AV p (c.beach.winds.take k)=true→∀(a:α) (L L1:AA) (rs:List AA) (cc dd:Nat) (fr:Fr) (t:List Int),Lv a L cc→Ls c f caps g2 g3 g4 g5 EL t L1→GV (L1::rs)→EL<cc→γ0<cc→t.length=c.beach.winds.length→t.take k=p →
  ∃L' L1' c' t',Lv ((VI c.beach ws p).foldl step a) L' c'∧Ls c f caps g2 g3 g4 g5 EL t' L1'∧cc≤c'∧t'.length=c.beach.winds.length∧t'.take k=p ∧
   ∀n,nC Tryz.prog (some dd) fr Tryz.f123.results.toList (AE Tryz.prog ann kn (n+M) 50 ABD ⟨cc,AG 0 [i k,.ptr 1 4 g4 0,.ptr 1 2 g2 0,.ptr 1 5 g5 0,.ptr 1 3 g3 0],⟨L::L1::rs,[]⟩⟩)=rR (some dd) fr c' (.tup []) (C5 (L'::L1'::rs))
theorem lTs(hlv:∀a L k,Lv a L k→∀t:St,1≤t.up.length→AN t L=L)(g2 g3 g4 g5 EL W k:Nat)(hkl:k<c.beach.winds.length)(h5:c.beach.winds.length≤100)(ws:List (List Int))(p:List Int)(hp:p.length=k)(hpl:AV p (c.beach.winds.take k)=true)
  (hrec:A38 c Lv step f caps γ0 g2 g3 g4 g5 EL (W+4000) (k+1) ws) (rs:List AA) (xs:List Int) (hxs:xs=c.beach.winds[k]) (hlen:xs.length≤100) (v2 v4:V) :
  ∀(e j:Nat) (a:α) (L L1:AA) (cc:Nat) (t:List Int),j+e=xs.length→Lv a L cc→Ls c f caps g2 g3 g4 g5 EL t L1→GV (L1::rs)→EL<cc→γ0<cc→t.length=c.beach.winds.length→t.take k=p →
  ∃(fr0:Fr) (L' L1':AA) (c':Nat) (t':List Int),Lv (((xs.drop j).flatMap fun x=>VI c.beach ws (p++[x])).foldl step a) L' c'∧Ls c f caps g2 g3 g4 g5 EL t' L1'∧cc≤c'∧t'.length=c.beach.winds.length∧t'.take k=p ∧
   ∀n m,e<m→A9 (AE Tryz.prog ann kn (n+W+4053) 50) SP (ann 50 (BS SP)) m ⟨cc,[(0,true,i k),(1,true,.ptr 1 4 g4 0),(3,true,.ptr 1 5 g5 0),(19,true,li xs),(20,true,i xs.length),(21,true,i j)],⟨L::L1::rs,[]⟩⟩ =
    some (.exit 0,⟨c',fr0,⟨L'::L1'::rs,[]⟩⟩)
 |0,j,a,L,L1,cc,t,hd,hL,hL1,hst,hc,hc0,htl,htk=>by
  have:j=xs.length:=by omega
  subst this;refine⟨?fr,L,L1,cc,t,by simpa using hL,hL1,by omega,htl,htk,fun n m hm=>?g⟩;case g=>
   obtain⟨m,rfl⟩:∃m',m=m'+1:=⟨m-1,by omega⟩
   rw[AB]
   simp
   rfl
 |e+1,j,a,L,L1,cc,t,hd,hL,hL1,hst,hc,hc0,htl,htk=>by
  have hL1o:=hL1;obtain⟨p2,p3,p4,p5,p10,pst⟩:=hL1;have hj:j<xs.length:=by omega
  have hw:=BJ (k:=j) (by omega);have hwk:=BJ (k:=k) (by omega);have hxm:xs[j]∈c.beach.winds[k]:=by rw[←hxs];exact List.getElem_mem hj
  have hL1':=Ls.set hL1o (k:=k) xs[j];obtain⟨L2,L3,c2,t2,r1,r2,r3,r4,r5,r6⟩:=hrec (p++[xs[j]]) (by simp[hp]) (VW hpl hkl hxm) a L _ (rs++[[]]) cc 32 [(31,true,i ((k:Int)+1)),(30,true,i k),(29,true,.fn 123 [] [.ptr 1 4 g4 0,.ptr 1 2 g2 0,.ptr 1 5 g5 0,.ptr 1 3 g3 0]),
   (0,true,i k),(1,true,.ptr 1 4 g4 0),(3,true,.ptr 1 5 g5 0),(19,true,li xs),(20,true,i xs.length),(21,true,i j)] (t.set k xs[j]) hL hL1' (by have:=oO (loc:=[]) (cU hst hL1'.st) (fun _ _=>rfl); rwa [List.cons_append]at this) (by omega) (by omega) (by simpa using htl) (jT htk (by omega))
  have hca:=fun n=>BG (A:=ann) (kn:=kn) (n:=n+W+4046) Tryz.func123 b123 rfl (args:=[i ((k:Int)+1),.ptr 1 4 g4 0,.ptr 1 2 g2 0,.ptr 1 5 g5 0,.ptr 1 3 g3 0]) (by simp) (some 32) cc [(31,true,i ((k:Int)+1)),(30,true,i k),(29,true,.fn 123 [] [.ptr 1 4 g4 0,.ptr 1 2 g2 0,.ptr 1 5 g5 0,.ptr 1 3 g3 0]),
   (0,true,i k),(1,true,.ptr 1 4 g4 0),(3,true,.ptr 1 5 g5 0),(19,true,li xs),(20,true,i xs.length),(21,true,i j)] (L :: ((10,EL,.vec 3 ((t.map AH).set k (AH xs[j]))) :: L1) :: rs) []
  have r6':=fun n=>r6 (n+46);have e46:∀n,n+46+(W+4000)=n+W+4046:=fun n=>by omega
  simp only[e46]at r6';have hcb:=fun n=>by have h1:=hca n;rw[List.cons_append,List.cons_append]at h1;exact h1.trans ((r6' n).trans (by rw[←List.cons_append,←List.cons_append,EY]))
  have hfl:(xs.drop j).flatMap (fun x=>VI c.beach ws (p++[x]))=VI c.beach ws (p++[xs[j]])++(xs.drop (j+1)).flatMap (fun x=>VI c.beach ws (p++[x])):=by rw[List.drop_eq_getElem_cons hj,List.flatMap_cons]
  obtain⟨fr0,L',L1',c',t',i1,i2,i3,i4,i5,ih⟩:=lTs hlv g2 g3 g4 g5 EL W k hkl h5 ws p hp hpl hrec rs xs hxs hlen v2 v4 e (j+1) ((VI c.beach ws (p++[xs[j]])).foldl step a) L2 L3 c2 t2 (by omega) r1 r2 (cU hst r2.st) (by omega) (by omega) r4 (UP r5 hp);rw[hfl,List.foldl_append];refine⟨fr0,L',L1',c',t',i1,i2,by omega,i4,i5,fun n m hm=>?_⟩;obtain⟨m,rfl⟩:∃m',m=m'+1:=⟨m-1,by omega⟩;have ih:=ih n m (by omega);have hcb:=hcb n;rw[AB];simp only[AH]at hcb ih⊢;simp at hcb ih;simp[hj,hw,hwk,AH,p2,p3,p4,p5,p10,htl,hkl,hc,IC,hcb,ih]
theorem kTs(hc:D8 c)(hmo:∀a L k k',Lv a L k→k≤k'→Lv a L k')(hlv:∀a L k,Lv a L k→∀t:St,1≤t.up.length→AN t L=L)(hs:AD7 c Lv step f caps γ0 N0)(hcw:caps.map weakV=caps)(g2 g3 g4 g5 EL:Nat):∀(ws:List (List Int)) (k:Nat),c.beach.winds.drop k=ws→k≤c.beach.winds.length→A38 c Lv step f caps γ0 g2 g3 g4 g5 EL (N0+60*ws.length+4000) k ws
 |[],k,hw,hk=>by
  intro p hp hpl a L L1 rs cc dd fr t hL hL1 hst hc1 hc0 htl htk;have hL1o:=hL1;obtain⟨p2,p3,p4,p5,p10,pst⟩:=hL1;have hkn:k=c.beach.winds.length:=by have:=congrArg List.length hw;simp at this;omega
  have he:p=t:=by rw[←htk,List.take_of_length_le (by omega)]
  subst he;have hb:=hc.be;have hlis:AV p c.beach.winds=true:=by rwa [hkn,List.take_length]at hpl
  have qt:=fun n=>nO n c.beach hb.w40 p;rw[JV hb]at qt;simp only[decide_true,Bool.true_and]at qt;have hki:decide ((k:Int)<(c.beach.winds.length:Int))=false:=by simp;omega
  have hrs:∀t:St,rs.length+2≤t.up.length→rs.map (AN t)=rs:=fun t h=>by have:=hst t (by simpa using h);simp only[List.map_cons,List.cons.injEq]at this;exact this.2
  have hl2:=hlv _ _ _ hL;simp only[VI];cases hr:CS c.beach p with
  |false=>
   rw[hr]at qt
   refine⟨L,L1,cc,p,by simpa using hL,hL1o,Nat.le_refl _,htl,htk,fun n=>?_⟩
   simp only[AD,AC]at qt p2⊢
   simp[ABD,AG,AH,AL,AF,p2,p3,p4,p5,p10,htl,hki,hkn,qt,hl2,pst,hrs,←Nat.add_assoc]
   done
  |true=>
   rw[hr]at qt
   have hall:QM L L1 rs []:=fun t ht=>⟨⟨hl2 t (by omega),pst t (by omega),hrs t (by omega)⟩,rfl⟩
   obtain⟨c1,hc2,q8⟩:=yB L L1 rs [] EL c.beach hb c.plan hc.pl p hlis p10 hall cc 44 [(43,true,.vec 1 10 EL p.length),(42,true,GQ c.plan),(41,true,.ptr 1 2 g2 9),(40,true,.agg (AC c.beach)),(39,true,.ptr 1 2 g2 0),(1,true,.ptr 1 4 g4 0),(2,true,.ptr 1 2 g2 0),(4,true,.ptr 1 3 g3 0)]
   obtain⟨L',c',s1,s2,s3⟩:=hs a L L1 rs c1 [(48,true,.list false ((HY c p).map BO)),(47,true,.fn f [] caps),(4,true,.ptr 1 3 g3 0),(8,true,.list false ((HY c p).map BO))] p (hmo _ _ _ _ hL hc2) (by omega) hr hall
   refine⟨L',L1,c',p,by simpa using s1,hL1o,by omega,htl,htk,fun n=>?_⟩
   have hl3:=hlv _ _ _ s1
   have s4:=fun n=>s3 (n+3995)
   simp only[Nat.add_right_comm _ 3995 N0]at s4
   have hne:DC c.beach c.plan p c.beach.rows.toNat≠[]:=fun e=>by have e2:=congrArg List.length e;have e3:=hb.ro;simp[DC]at e2;omega
   rw[slX hne,htl]at q8
   simp only[HY]at s4
   generalize DC c.beach c.plan p c.beach.rows.toNat=H at *
   simp only[AD,AC]at qt p2 q8 s4⊢
   simp[ABD,AG,AH,AL,AF,p2,p3,p4,p5,p10,htl,hki,hkn,qt,q8,s4,hcw,hl2,hl3,pst,hrs,←Nat.add_assoc]
   done
 |l::ws,k,hw,hk=>by
  intro p hp hpl a L L1 rs cc dd fr t hL hL1 hst hc1 hc0 htl htk;have hL1o:=hL1;obtain⟨p2,p3,p4,p5,p10,pst⟩:=hL1;have hkl:k<c.beach.winds.length:=by have:=congrArg List.length hw;simp at this;omega
  rw[List.drop_eq_getElem_cons hkl]at hw;cases hw;have hb:=hc.be;have h5:=hb.hl;have hx4:=hb.wl _ (List.getElem_mem hkl);have hki:decide ((k:Int)<(c.beach.winds.length:Int))=true:=by simp;omega
  have hrs:∀t:St,rs.length+2≤t.up.length→rs.map (AN t)=rs:=fun t h=>by have:=hst t (by simpa using h);simp only[List.map_cons,List.cons.injEq]at this;exact this.2
  obtain⟨fr0,L',L1',c',t',i1,i2,i3,i4,i5,i6⟩:=lTs hlv g2 g3 g4 g5 EL (N0+60*(c.beach.winds.drop (k+1)).length) k hkl (by omega) (c.beach.winds.drop (k+1)) p hp hpl (kTs hc hmo hlv hs hcw g2 g3 g4 g5 EL (c.beach.winds.drop (k+1)) (k+1) rfl (by omega)) rs _ rfl (by omega) (.bool false) (.bool false) (c.beach.winds[k]).length 0 a L L1 cc t (by omega) hL hL1o hst hc1 hc0 htl htk;rw[List.drop_zero]at i1;refine⟨L',L1',c',t',by simpa [VI]using i1,i2,by omega,i4,i5,fun n=>?_⟩;have hl2:=hlv _ _ _ i1;have pst2:=i2.st;rw[List.length_cons,show n+(N0+60*((c.beach.winds.drop (k+1)).length+1)+4000)=n+(N0+60*(c.beach.winds.drop (k+1)).length)+4060 by omega];have i6:=i6 n (n+(N0+60*(c.beach.winds.drop (k+1)).length)+4053) (by omega);generalize n+(N0+60*(c.beach.winds.drop (k+1)).length)=n2 at i6⊢;simp only[AD,AC]at i6 p2⊢;simp at i6;simp[ABD,AG,AH,AL,AF,p2,p3,p4,p5,p10,htl,hki,hkl,pst2,hl2,hrs,i6];done
end
end Go.Proofs.Tryz.Op
namespace Go.Wind
theorem aO{b:AJ}:∀{ws:List (List Int)} {p t:List Int},t∈VI b ws p↔CS b t=true∧∃q,t=p++q∧AV q ws=true
 |[],p,t=>by
  simp only[VI];by_cases h:CS b p=true
  ·rw[if_pos h,List.mem_singleton];refine⟨fun e=>⟨by rw[e];exact h,[],by rw[e,List.append_nil],rfl⟩,fun ⟨_,q,e,h2⟩=>?_⟩;have hq:q=[]:=List.eq_nil_of_length_eq_zero (BZ h2);rw[e,hq,List.append_nil]
  ·rw[if_neg h];refine⟨fun h=>(by cases h),fun ⟨h1,q,e,h2⟩=>?_⟩;have hq:q=[]:=List.eq_nil_of_length_eq_zero (BZ h2);rw[e,hq,List.append_nil]at h1;exact absurd h1 h
 |l::r,p,t=>by
  simp only[VI,List.mem_flatMap];constructor
  ·rintro ⟨x,hx,h⟩;obtain⟨h1,q,e,h2⟩:=aO.1 h;refine⟨h1,x::q,by rw[e,List.append_assoc];rfl,?_⟩;simp only[AV,Bool.and_eq_true];exact⟨by simpa using hx,h2⟩
  ·rintro ⟨h1,q,e,h2⟩;cases q with
   |nil=>simp[AV]at h2
   |cons x q=>
    simp only[AV,Bool.and_eq_true]at h2
    exact⟨x,by simpa using h2.1,aO.2 ⟨h1,q,by rw[e,List.append_assoc];rfl,h2.2⟩⟩
def JG(b:AJ):List (List Int):=VI b b.winds []
theorem mQ{b:AJ}{t:List Int}:t∈JG b↔CS b t=true:=by unfold JG;rw[aO];refine⟨fun h=>h.1,fun h=>⟨h,t,rfl,?_⟩⟩;exact JB (H1.2 h)
end Go.Wind
namespace Go.Proofs.Tryz.Op
theorem AD8{α:Type}{c:A0}(hc:D8 c){Lv:α→AA→Nat→Prop}{step:α→List Int→α}{f:FuncId}{caps:List V}{γ0 N0:Nat}(hmo:∀a L k k',Lv a L k→k≤k'→Lv a L k')(hlv:∀a L k,Lv a L k→∀t:St,1≤t.up.length→AN t L=L)(hs:AD7 c Lv step f caps γ0 N0)(hcw:caps.map weakV=caps)(hcl:∀t:St,1≤t.up.length→O6 (AZ t 3) caps=some caps)(hco:∃x,x∈caps∧AK 8 x=false)(a:α)(L:AA)(g:Nat)(hL:Lv a L g)(d:Nat)(hg:γ0<g)(fr:Fr) :
  ∃L' c',Lv ((JG c.beach).foldl step a) L' c'∧g≤c'∧∀n,H9 (BN Tryz.prog ann kn (n+N0+5000)) (some d) ⟨g,fr,⟨[],L⟩⟩ 78 [.agg (AD c),.fn f [] caps]=some ⟨c',(d,true,.tup [])::fr,⟨[],L'⟩⟩:=by
 have hb:=hc.be
 have h5:=hb.hl
 have hla:=hb.la
 have hwi:=hb.wi
 let L1:AA:=[(2,g,.box (AD c)),(3,g+1,.box [.fn f [] caps]),(4,g+3,.box [.vec 1 10 (g+2) c.beach.winds.length]),
  (5,g+4,.box [.fn 123 [] [.ptr 1 4 (g+3) 0,.ptr 1 2 g 0,.ptr 1 5 (g+4) 0,.ptr 1 3 (g+1) 0]]),(10,g+2,.vec 3 ((List.replicate c.beach.winds.length 0).map AH))]
 have hL1:Ls c f caps g (g+1) (g+3) (g+4) (g+2) (List.replicate c.beach.winds.length 0) L1:=by
  refine⟨rfl,rfl,rfl,rfl,rfl,fun t ht=>?_⟩;have hcl:=hcl t (by omega);have e0:¬0=t.up.length:=by omega
  have e1:¬1=t.up.length:=by omega
  obtain⟨up,loc⟩:=t;simp only at e0 e1;simp only[L1,BE,D4,H2];simp[e0,e1,AD,AH,AL,AF,AR,AY,AQ,hcl]
 obtain⟨L',L1',c',t',r1,r2,r3,r4,r5,r6⟩:=kTs hc hmo hlv hs hcw g (g+1) (g+3) (g+4) (g+2) c.beach.winds 0 rfl (by omega) [] rfl rfl a L L1 [] (g+5) 13 [(12,true,.fn 123 [] [.ptr 1 4 (g+3) 0,.ptr 1 2 g 0,.ptr 1 5 (g+4) 0,.ptr 1 3 (g+1) 0]),(5,true,.ptr 1 5 (g+4) 0)]
  (List.replicate c.beach.winds.length 0) (hmo _ _ _ _ hL (by omega)) hL1 (by intro t ht;simp only[List.map_cons,List.map_nil,hL1.st t (by simpa using ht)]) (by omega) (by omega) (by simp) (by simp)
 refine⟨L',c',r1,by omega,fun n=>?_⟩
 have hl2:=hlv _ _ _ r1
 rw[BG Tryz.func78 b78 rfl (by simp;exact fun _=>hco)]
 have m1:c.beach.winds.length*8≤140737488355328:=by omega
 have m2:c.beach.winds.length≤maxLen:=by unfold maxLen;omega
 have r6:=r6 (n+995-60*c.beach.winds.length)
 have hca:=BG (A:=ann) (kn:=kn) (n:=n+N0+4995) Tryz.func123 b123 rfl (args:=[i ((0:Nat):Int),.ptr 1 4 (g+3) 0,.ptr 1 2 g 0,.ptr 1 5 (g+4) 0,.ptr 1 3 (g+1) 0]) (by simp) (some 13) (g+5) [(12,true,.fn 123 [] [.ptr 1 4 (g+3) 0,.ptr 1 2 g 0,.ptr 1 5 (g+4) 0,.ptr 1 3 (g+1) 0]),(5,true,.ptr 1 5 (g+4) 0)] [L] L1
 rw[show n+995-60*c.beach.winds.length+(N0+60*c.beach.winds.length+4000)=n+N0+4995 by omega]at r6
 have hca:=hca.trans (r6.trans rfl)
 generalize n+N0=n2 at hca⊢
 have z1:(List.replicate c.beach.winds.length (0:Int)).map AH=List.replicate c.beach.winds.length [V.int IntKind.i64 0]:=by simp[AH]
 simp only[L1,z1,AD]at hca⊢
 simp at hca
 simp[c78,AG,m1,m2,Nat.add_assoc,hca,hl2]
 done
end Go.Proofs.Tryz.Op
