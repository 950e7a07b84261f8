/- The walk of SeatPlays. No condition. -/
import Derived.Test.YthhdhbalenanjaaGreatD1
import Derived.Test.YthhdhbalenanjaaGreatC1
import Derived.Test.YthhdhbalenanjaaGreatV1
import Derived.Test.YthhdhbalenanjaaGreatFz
import Derived.Test.YthhdhbalenanjaaGreatW1
import Derived.Test.YthhdhbalenanjaaGreatS3
set_option maxRecDepth 100000
set_option linter.unusedSimpArgs false
open Go Go.Pg Go.Proofs Go.Wind
namespace Go.Proofs.Tryz.Op
theorem W7(n:Nat)(d:Option Tmp)(st:XS):H9 (BN Tryz.prog ann kn n) d st 19 []=DG d st (some (.bool true)):=by rw[aX d rfl (by simp)];rfl
theorem bD{b:AJ}(h:UA b=true):b.face.length≤100∧b.sun.length≤100∧b.winds.length≤100∧(∀l∈b.winds,l.length≤40)∧b.breaks.length≤100∧b.notes.length≤100:=by simp only[UA,Bool.and_eq_true,Bool.not_eq_true',Bool.or_eq_false_iff,Bool.not_eq_false',decide_eq_false_iff_not]at h;obtain⟨⟨⟨⟨⟨h1,h2⟩,h3⟩,h4⟩,h5⟩,_⟩:=h;obtain⟨h6,h7⟩:=VP h3;exact⟨by omega,by omega,by omega,fun l hl=>by have:=h7 l hl;omega,by omega,by omega⟩
theorem A8X(n:Nat)(c:A0)(f:NL)(H:List (List FW))(hg:∀l∈H,∀x∈l,0≤x.good∧x.good≤100)(s:Int×Int)(h1:0≤s.1)(hr:s.1.toNat<H.length)(h2:0≤s.2)(hf:0≤f.size∧f.size≤4)(hp:s.2+f.size≤((H.getD s.1.toNat []).length:Int))(hl:(H.getD s.1.toNat []).length≤100):AW Tryz.prog kn (AE Tryz.prog ann kn (n+300)) 29 [.agg (AD c),.agg (AQ f),.agg (AF s),.list false (H.map BO)]=some (.tup [i (NT H s.1.toNat s.2.toNat f.size.toNat),.bool (F8 H f.good s.1.toNat s.2.toNat f.size.toNat)]):=by
 have e:H.getD s.1.toNat []=H[s.1.toNat]:=by rw[List.getD_eq_getElem?_getD,List.getElem?_eq_getElem hr];rfl
 rw[e]at hp hl;have q:=AZ6 n c f H hg s.1.toNat s.2.toNat hr hf (by omega) hl;have e1:((s.1.toNat:Nat):Int)=s.1:=by omega
 have e2:((s.2.toNat:Nat):Int)=s.2:=by omega
 rw[e1,e2]at q;exact q
theorem AUN(n:Nat)(ws:List Nat)(hw:∀w∈ws,w≤65535)(k:Nat):AW Tryz.prog kn (AE Tryz.prog ann kn (n+100)) 103 [.list false (ws.map I5),i k]=some (i (E8 ws k)):=by
 rw[AP rfl,AO Tryz.func103 BDX rfl (by simp[I5])];unfold E8;by_cases h:ws.length=0
 ·have h':ws=[]:=List.length_eq_zero_iff.1 h;simp[APN,AG,h']
 ·have h':ws≠[]:=by intro e;exact h (by rw[e];rfl)
  have hmod:(k:Int).tmod (ws.length:Int)=((k % ws.length:Nat):Int):=(Int.ofNat_tmod _ _).symm;have hml:k % ws.length<ws.length:=Nat.mod_lt _ (by omega);have hx:ws.getD (k % ws.length) 0=ws[k % ws.length]:=by rw[List.getD_eq_getElem?_getD,List.getElem?_eq_getElem hml];rfl
  have hwl:=hw _ (List.getElem_mem hml);rw[if_neg h,hx];generalize k % ws.length=Y at *;have hwr:IntKind.i64.wrap (ws[Y]:Int)=(ws[Y]:Int):=AS (by omega) (by omega);simp[APN,AG,I5,h',hmod,hml,hwr,A77]
theorem nS{b:AJ}(hb:Valid b):(BU b).length≤1100:=by have h1:=hb.many;have h2:(BU b).length≤((List.range (FV b.winds)).map (DW b.winds)).length:=List.length_filter_le _ _;rw[List.length_map,List.length_range]at h2;omega
def iE(c:A0):Bool:=XG c&&decide (EJ c=0)
theorem AK6(n:Nat)(c:A0):AW Tryz.prog kn (AE Tryz.prog ann kn (n+2600)) 54 [.agg (AD c)]=some (.bool (iE c)):=by
 rw[AP rfl,AO Tryz.func54 b54 rfl (by simp[AD,AR,AY,AQ,AH,AL,AF])];have qT:=fun n=>AOX n c;unfold iE;cases hT:XG c with
 |false=>
  rw[hT]at qT
  simp only[AD]at qT⊢
  simp[c54,AG,qT,AH,AL,AF,AR,AY,AQ]
 |true=>
  rw[hT]at qT
  obtain⟨t1,t2,t3,t4,t5,t6⟩:=QR hT
  obtain⟨l1,l2,l3,l4,l5,l6⟩:=bD t1
  have qf:=fun n=>AGO n c (fun l hl=>by have:=l4 l hl;omega) (by omega) (by omega)
  generalize EJ c=E at *
  simp only[AD]at qT qf⊢
  simp[c54,AG,qT,qf,AH,AL,AF,AR,AY,AQ]
def I6(c:A0)(ws:List Nat)(k j:Nat):Int×Int:=((((E8 ws k+j) % (c.beach.rows.toNat*c.beach.places.toNat) / c.beach.places.toNat:Nat):Int),(((E8 ws k+j) % (c.beach.rows.toNat*c.beach.places.toNat) % c.beach.places.toNat:Nat):Int))
def NE(c:A0)(G:List (Nat×Int))(ws:List Nat)(acc:List (Int×Int))(k:Nat):Nat→Nat→Option (Int×Int)
 |0,_=>none
 |e+1,j=>if HO c G (acc++[I6 c ws k j]) acc.length=true then some (I6 c ws k j) else NE c G ws acc k e (j+1)
def eT(c:A0)(G:List (Nat×Int))(ws:List Nat):Nat→Nat→List (Int×Int)→Option (List (Int×Int))
 |0,_,acc=>some acc
 |e+1,k,acc=>match NE c G ws acc k (c.beach.rows.toNat*c.beach.places.toNat) 0 with
  |some x=>eT c G ws e (k+1) (acc++[x])
  |none=>none
def PB(c:A0)(ws:List Nat):List (Int×Int)×Bool:=match eT c (B6 c []) ws (B6 c []).length 0 []with
 |some ss=>(ss,EP c ss)
 |none=>([],false)
theorem bE{c:A0}{G:List (Nat×Int)}{ws:List Nat}{acc:List (Int×Int)}{k:Nat}:∀{e j:Nat} {x:Int×Int},NE c G ws acc k e j=some x→∃j',x=I6 c ws k j'
 |0,j,x,h=>by cases h
 |e+1,j,x,h=>by
  unfold NE at h;split at h
  ·exact⟨j,(Option.some.inj h).symm⟩
  ·exact bE h
theorem A8Y{k:Nat}{x:Int×Int}(h:k≤10000):B4 Tryz.prog 59 k [[i x.1,i x.2]]=true:=by rw[CA (by simp) (by simp)];simp[maxLen];omega
theorem AON{ss:List (Int×Int)}(h:ss.length≤10000):B4 Tryz.prog 59 0 (ss.map AF)=true:=by
 cases ss with
 |nil=>rfl
 |cons x l=>
  rw[CA (by simp) (by simp)]
  simp[maxLen,AF]at h⊢;omega
section
variable (c:A0)(hc:D8 c)(G:List (Nat×Int))(hG:G.length≤10)(hf:∀g∈G,g.1<c.fams.length∧0≤g.2∧g.2≤4)(ws:List Nat)(hws:∀w∈ws,w≤65535)
include hc hG hf hws
theorem A8Z(k:Nat)(acc:List (Int×Int))(hk:k<G.length)(hl:acc.length=k)(ha:∀s∈acc,0≤s.2∧s.2≤1000):∀(e j cc:Nat),j+e=c.beach.rows.toNat*c.beach.places.toNat→∃fr c',BQ fr 1=some (true,.list false (ws.map I5))∧BQ fr 2=some (true,.ptr 0 2 0 0)∧BQ fr 6=some (true,.list false (G.map B0))∧BQ fr 8=some (true,i (c.beach.rows.toNat*c.beach.places.toNat:Nat))∧BQ fr 9=some (true,i k)∧(match NE c G ws acc k e j with
   |some x=>BQ fr 7=some (true,sl ((acc++[x]).map AF))∧BQ fr 10=some (true,.bool true)
   | none=>BQ fr 7=some (true,sl (acc.map AF))∧BQ fr 10=some (true,.bool false)) ∧
  ∀n m,e+1<m→A9 (AE Tryz.prog ann kn (n+1200) 73) YE (ann 73 (BS YE)) m ⟨cc,[(1,true,.list false (ws.map I5)),(2,true,.ptr 0 2 0 0),(6,true,.list false (G.map B0)),(7,true,sl (acc.map AF)),(8,true,i (c.beach.rows.toNat*c.beach.places.toNat:Nat)),(9,true,i k),(10,true,.bool false),(11,true,i j)],⟨[],[(2,0,.box (AD c))]⟩⟩ =
   some (.exit 2,⟨c',fr,⟨[],[(2,0,.box (AD c))]⟩⟩)
 |0,j,cc,hd=>by
  obtain rfl:j=c.beach.rows.toNat*c.beach.places.toNat:=by omega
  generalize c.beach.rows.toNat*c.beach.places.toNat=z at *;generalize hA:sl (acc.map AF)=A at *;refine⟨?fr,cc,?g1,?g2,?g3,?g4,?g5,?g6,fun n m hm=>?g9⟩;case g9=>
   obtain⟨m,rfl⟩:∃m',m=m'+1:=⟨m-1,by omega⟩
   rw[AB]
   simp[AD]
   rfl
  all_goals simp[NE,hA]
 |e+1,j,cc,hd=>by
  have hro:=hc.be.ro;have hpl:=hc.be.pl;have hz:c.beach.rows.toNat*c.beach.places.toNat≤1000*1000:=Nat.mul_le_mul (by omega) (by omega);have hw0:=AIH hws k;have hw1:IntKind.i64.wrap ((j:Int)+1)=(j:Int)+1:=AS (by omega) (by omega);have hw2:IntKind.i64.wrap ((E8 ws k:Int)+(j:Int))=((E8 ws k+j:Nat):Int):=by rw[AS (by omega) (by omega)];omega
  have hzp:0<c.beach.rows.toNat*c.beach.places.toNat:=by omega
  have hP:0<c.beach.places.toNat:=by refine Nat.pos_of_ne_zero fun e0=>?_;rw[e0,Nat.mul_zero]at hzp;omega
  have hz0:¬((c.beach.rows.toNat*c.beach.places.toNat:Nat):Int)=0:=by omega
  have hp0:¬c.beach.places=0:=by omega
  have hPp:c.beach.places=((c.beach.places.toNat:Nat):Int):=by omega
  have ej:I6 c ws k j=I6 c ws k j:=rfl;have t1:((E8 ws k+j:Nat):Int).tmod ((c.beach.rows.toNat*c.beach.places.toNat:Nat):Int)=(((E8 ws k+j) % (c.beach.rows.toNat*c.beach.places.toNat):Nat):Int):=(Int.ofNat_tmod _ _).symm;have t2:(((E8 ws k+j) % (c.beach.rows.toNat*c.beach.places.toNat):Nat):Int).tdiv c.beach.places=(I6 c ws k j).1:=by rw[hPp];exact(Int.ofNat_tdiv _ _).symm
  have t3:(((E8 ws k+j) % (c.beach.rows.toNat*c.beach.places.toNat):Nat):Int).tmod c.beach.places=(I6 c ws k j).2:=by rw[hPp];exact(Int.ofNat_tmod _ _).symm
  have b1:(I6 c ws k j).1=(((E8 ws k+j) % (c.beach.rows.toNat*c.beach.places.toNat) / c.beach.places.toNat:Nat):Int):=rfl;have b2:(I6 c ws k j).2=(((E8 ws k+j) % (c.beach.rows.toNat*c.beach.places.toNat) % c.beach.places.toNat:Nat):Int):=rfl;have hY:(E8 ws k+j) % (c.beach.rows.toNat*c.beach.places.toNat)<c.beach.rows.toNat*c.beach.places.toNat:=Nat.mod_lt _ hzp;have hdl:=Nat.div_le_self ((E8 ws k+j) % (c.beach.rows.toNat*c.beach.places.toNat)) c.beach.places.toNat;have hml:=Nat.mod_lt ((E8 ws k+j) % (c.beach.rows.toNat*c.beach.places.toNat)) hP;have w1:IntKind.i64.wrap (((E8 ws k+j) % (c.beach.rows.toNat*c.beach.places.toNat):Nat):Int)=(((E8 ws k+j) % (c.beach.rows.toNat*c.beach.places.toNat):Nat):Int):=AS (by omega) (by omega);obtain⟨u1,hu1,hu2⟩:∃u:Nat,(I6 c ws k j).1=(u:Int)∧u≤1000000:=⟨_,b1,Nat.le_trans hdl (Nat.le_trans (Nat.le_of_lt hY) hz)⟩;obtain⟨v1,hv1,hv2⟩:∃v:Nat,(I6 c ws k j).2=(v:Int)∧v≤1000:=⟨_,b2,by omega⟩;have w3:IntKind.i64.wrap (I6 c ws k j).1=(I6 c ws k j).1:=by rw[hu1];exact AS (by omega) (by omega)
  have w4:IntKind.i64.wrap (I6 c ws k j).2=(I6 c ws k j).2:=by rw[hv1];exact AS (by omega) (by omega)
  have hlj:(j:Int)<((c.beach.rows.toNat*c.beach.places.toNat:Nat):Int):=by omega
  have qw:=fun n=>AUN n ws hws k;have hla:(acc++[I6 c ws k j]).length=k+1:=by simp[hl]
  have qS:=fun n=>ALJ n c (by omega) (by omega) G (acc++[I6 c ws k j]) k (by omega) (by omega) (by omega) hf (fun q hq=>by
   have hq1:q<acc.length:=by omega
   have e:(A4 G (acc++[I6 c ws k j]) q).place=(acc[q]).2:=by simp[A4,List.getD_eq_getElem?_getD,List.getElem?_append_left hq1,List.getElem?_eq_getElem hq1]
   rw[e];exact ha _ (List.getElem_mem hq1))
  have ha1:=AON (ss:=acc) (by omega);have ha0:B4 Tryz.prog 59 0 []=true:=AON (ss:=[]) (by simp);have hz1:¬c.beach.rows.toNat*c.beach.places.toNat=0:=by omega
  have ha2:=A8Y (k:=acc.length) (x:=I6 c ws k j) (by omega);clear hml hdl b1 b2 hu1 hu2 hv1 hv2 hPp ej hY hzp;generalize (E8 ws k+j) % (c.beach.rows.toNat*c.beach.places.toNat)=Y at *;generalize hW:E8 ws k+j=WJ at *;cases hS:HO c G (acc++[I6 c ws k j]) k with
  |true=>
   have et:NE c G ws acc k (e+1) j=some (I6 c ws k j):=by unfold NE;rw[if_pos (by rw[hl];exact hS)]
   rw[et]
   rw[hS]at qS
   generalize I6 c ws k j=X at *
   generalize c.beach.rows.toNat*c.beach.places.toNat=z at *
   have hsl:sl (acc.map AF++[AF X])=.list false (acc.map AF++[AF X]):=by cases acc<;>rfl
   simp only[AD]at qS⊢
   simp[AF]at qS ha1 ha2
   cases acc with
   |nil=>
    simp at qS ha2
    by_cases hj1:(j:Int)+1<(z:Int)
    all_goals (
     refine⟨?_,cc+1+1,?_,?_,?_,?_,?_,?_,fun n m hm=>?_⟩
     rotate_left 7
     ·obtain⟨m,rfl⟩:∃m',m=m'+1+1:=⟨m-2,by omega⟩;rw[AB];simp[hlj,hj1,hw1,hw2,hz0,hz1,hp0,t1,t2,t3,w1,w3,w4,qw,qS,ha0,ha1,ha2,AF,I5,B0,AR,AY,AQ,AL,AH,E1,F9,BF,BR,BW,A8,D9,DY,iT,oE];rw[AB];simp[hlj,hj1,hw1,hw2,hz0,hz1,hp0,t1,t2,t3,w1,w3,w4,qw,qS,ha0,ha1,ha2,AF,I5,B0,AR,AY,AQ,AL,AH,E1,F9,BF,BR,BW,A8,D9,DY,iT,oE];rfl
     all_goals simp[oE,AF])
   |cons a acc=>
    simp[AF]at qS ha1 ha2
    by_cases hj1:(j:Int)+1<(z:Int)
    all_goals (
     refine⟨?_,cc+1+1,?_,?_,?_,?_,?_,?_,fun n m hm=>?_⟩
     rotate_left 7
     ·obtain⟨m,rfl⟩:∃m',m=m'+1+1:=⟨m-2,by omega⟩;rw[AB];simp[hlj,hj1,hw1,hw2,hz0,hz1,hp0,t1,t2,t3,w1,w3,w4,qw,qS,ha0,ha1,ha2,AF,I5,B0,AR,AY,AQ,AL,AH,E1,F9,BF,BR,BW,A8,D9,DY,iT,oE];rw[AB];simp[hlj,hj1,hw1,hw2,hz0,hz1,hp0,t1,t2,t3,w1,w3,w4,qw,qS,ha0,ha1,ha2,AF,I5,B0,AR,AY,AQ,AL,AH,E1,F9,BF,BR,BW,A8,D9,DY,iT,oE];rfl
     all_goals simp[oE,AF])
  |false=>
   have et:NE c G ws acc k (e+1) j=NE c G ws acc k e (j+1):=by show(if HO c G (acc++[I6 c ws k j]) acc.length=true then some (I6 c ws k j) else NE c G ws acc k e (j+1))=_;rw[if_neg (by rw[hl,hS];decide)]
   rw[et]
   rw[hS]at qS
   obtain⟨fr,c',f1,f2,f6,f8,f9,f7,ih⟩:=A8Z k acc hk hl ha e (j+1) (cc+1+1) (by omega)
   refine⟨fr,c',f1,f2,f6,f8,f9,f7,fun n m hm=>?_⟩
   clear f7
   obtain⟨m,rfl⟩:∃m',m=m'+1:=⟨m-1,by omega⟩
   have ih:=ih n m (by omega)
   generalize I6 c ws k j=X at *
   generalize c.beach.rows.toNat*c.beach.places.toNat=z at *
   rw[AB]
   simp only[AD]at qS ih⊢
   simp[AF]at qS ha1 ha2
   cases acc with
   |nil=>
    simp[iT]at qS ha2 ih
    simp[hlj,hw1,hw2,hz0,hz1,hp0,t1,t2,t3,w1,w3,w4,qw,qS,ha0,ha1,ha2,AF,I5,B0,AR,AY,AQ,AL,AH,E1,F9,BF,BR,BW,A8,D9,DY,iT,oE,ih]
   |cons a acc=>
    simp[oE,AF]at qS ha1 ha2 ih
    simp[hlj,hw1,hw2,hz0,hz1,hp0,t1,t2,t3,w1,w3,w4,qw,qS,ha0,ha1,ha2,AF,I5,B0,AR,AY,AQ,AL,AH,E1,F9,BF,BR,BW,A8,D9,DY,iT,oE,ih]
theorem A80:∀(d k cc:Nat) (acc:List (Int×Int)),k+d=G.length→acc.length=k→(∀s∈acc,0≤s.2∧s.2≤1000)→match eT c G ws d k acc with
  |some ss=>∃fr c',BQ fr 2=some (true,.ptr 0 2 0 0)∧BQ fr 6=some (true,sl (G.map B0))∧BQ fr 7=some (true,sl (ss.map AF))∧∀n m,d<m→A9 (AE Tryz.prog ann kn (n+1400) 73) QT (ann 73 (BS QT)) m ⟨cc,[(1,true,.list false (ws.map I5)),(2,true,.ptr 0 2 0 0),(6,true,sl (G.map B0)),(7,true,sl (acc.map AF)),(8,true,i (c.beach.rows.toNat*c.beach.places.toNat:Nat)),(9,true,i k)],⟨[],[(2,0,.box (AD c))]⟩⟩ =
   some (.exit 0,⟨c',fr,⟨[],[(2,0,.box (AD c))]⟩⟩)
  |none=>∃c',∀n m,d<m→A9 (AE Tryz.prog ann kn (n+1400) 73) QT (ann 73 (BS QT)) m ⟨cc,[(1,true,.list false (ws.map I5)),(2,true,.ptr 0 2 0 0),(6,true,sl (G.map B0)),(7,true,sl (acc.map AF)),(8,true,i (c.beach.rows.toNat*c.beach.places.toNat:Nat)),(9,true,i k)],⟨[],[(2,0,.box (AD c))]⟩⟩ =
   some (.ret,⟨c',[(5,true,.bool false),(4,true,.nil)],⟨[],[]⟩⟩)
 |0,k,cc,acc,hd,hl,ha=>by
  obtain rfl:k=G.length:=by omega
  show ∃fr c',_;generalize c.beach.rows.toNat*c.beach.places.toNat=z at *;generalize hA:sl (acc.map AF)=A at *;cases G with
  |nil=>
   refine⟨?fr,cc,?g1,?g2,?g3,fun n m hm=>?g9⟩
   case g9=>
    obtain⟨m,rfl⟩:∃m',m=m'+1:=⟨m-1,by omega⟩
    rw[AB]
    simp[AD,iT]
    rfl
   all_goals simp[iT]
  |cons g G=>
   refine⟨?fr2,cc,?g12,?oH,?g32,fun n m hm=>?iF⟩
   case iF=>
    obtain⟨m,rfl⟩:∃m',m=m'+1:=⟨m-1,by omega⟩
    rw[AB]
    simp[AD,oE]
    rfl
   all_goals simp[oE]
 |d+1,k,cc,acc,hd,hl,ha=>by
  have hk:k<G.length:=by omega
  have hw:=BJ (k:=k) (by omega);have hro:=hc.be.ro;have hpl:=hc.be.pl;have hz:c.beach.rows.toNat*c.beach.places.toNat≤5*5:=Nat.mul_le_mul (by omega) (by omega);have hGs:sl (G.map B0)=.list false (G.map B0):=by
   cases G with
   |nil=>simp at hk
   |cons g G=>rfl
  rw[hGs];obtain⟨f0,c0,f1,f2,f6,f8,f9,f7,q⟩:=A8Z c hc G hG hf ws hws k acc hk hl ha (c.beach.rows.toNat*c.beach.places.toNat) 0 cc (by omega);unfold eT;cases hT:NE c G ws acc k (c.beach.rows.toNat*c.beach.places.toNat) 0 with
  |none=>
   rw[hT]at f7
   obtain⟨f7,f10⟩:=f7
   refine⟨c0,fun n m hm=>?_⟩
   obtain⟨m,rfl⟩:∃m',m=m'+1:=⟨m-1,by omega⟩
   have q:=fun n m=>q n (m+101) (by omega)
   generalize c.beach.rows.toNat*c.beach.places.toNat=z at *
   generalize sl (acc.map AF)=A at *
   rw[AB]
   simp only[AD]at q⊢
   simp at q
   simp[hk,q,f1,f2,f6,f7,f8,f9,f10]
  |some x=>
   rw[hT]at f7
   obtain⟨f7,f10⟩:=f7
   obtain⟨j',hx⟩:=bE hT
   have hP:0<c.beach.places.toNat:=by omega
   have hx2:0≤x.2∧x.2≤1000:=by
    have b2:x.2=(((E8 ws k+j') % (c.beach.rows.toNat*c.beach.places.toNat) % c.beach.places.toNat:Nat):Int):=by rw[hx];rfl
    have:=Nat.mod_lt ((E8 ws k+j') % (c.beach.rows.toNat*c.beach.places.toNat)) hP;obtain⟨v,e1,e2⟩:∃v:Nat,x.2=(v:Int)∧v≤1000:=⟨_,b2,by omega⟩;omega
   have ih:=A80 d (k+1) c0 (acc++[x]) (by omega) (by simp[hl]) (fun s hs=>by
    rcases List.mem_append.1 hs with h|h
    ·exact ha s h
    ·rw[List.mem_singleton.1 h]; exact hx2)
   rw[hGs]at ih
   simp only
   revert ih
   cases hT2:eT c G ws d (k+1) (acc++[x])with
   |none=>
    intro ih
    obtain⟨c',ih⟩:=ih
    refine⟨c',fun n m hm=>?_⟩
    obtain⟨m,rfl⟩:∃m',m=m'+1:=⟨m-1,by omega⟩
    have q:=fun n m=>q n (m+101) (by omega)
    have ih:=ih n m (by omega)
    generalize c.beach.rows.toNat*c.beach.places.toNat=z at *
    generalize sl (acc.map AF)=A at *
    generalize sl ((acc++[x]).map AF)=B at *
    rw[AB]
    simp only[AD]at q ih⊢
    simp at q ih
    simp[hk,hw,q,f1,f2,f6,f7,f8,f9,f10,ih]
   |some ss=>
    intro ih
    obtain⟨fr,c',g2,g6,g7,ih⟩:=ih
    refine⟨fr,c',g2,g6,g7,fun n m hm=>?_⟩
    obtain⟨m,rfl⟩:∃m',m=m'+1:=⟨m-1,by omega⟩
    have q:=fun n m=>q n (m+101) (by omega)
    have ih:=ih n m (by omega)
    generalize c.beach.rows.toNat*c.beach.places.toNat=z at *
    generalize sl (acc.map AF)=A at *
    generalize sl ((acc++[x]).map AF)=B at *
    rw[AB]
    simp only[AD]at q ih⊢
    simp at q ih
    simp[hk,hw,q,f1,f2,f6,f7,f8,f9,f10,ih]
end
theorem zN(c:A0):IB c 0=B6 c []:=by
 have:∀N,II 0 N=[]:=fun N=>by unfold II;simp
 unfold IB;rw[this]
theorem AUO(n:Nat)(c:A0)(hc:D8 c)(ws:List Nat)(hws:∀w∈ws,w≤65535):AW Tryz.prog kn (AE Tryz.prog ann kn (n+2000)) 56 [.agg (AD c),.list false (ws.map I5)]=some (.tup [sl ((PB c ws).1.map AF),.bool (PB c ws).2]):=by
 rw[AP rfl,AO Tryz.func56 b56 rfl (by simp[AD,AR,AY,AQ,AH,AL,AF,I5])];have hro:=hc.be.ro;have hpl:=hc.be.pl;have hfl:=hc.fl;have hch:=hc.ch;have hgl:=FC c;have hmem:∀g∈B6 c [],g.1<c.fams.length∧1≤g.2∧g.2≤4:=fun g hg=>QQ hc [] _ (Nat.le_refl _) g hg;have hz:c.beach.rows.toNat*c.beach.places.toNat≤5*5:=Nat.mul_le_mul (by omega) (by omega);have hzm:c.beach.rows*c.beach.places=((c.beach.rows.toNat*c.beach.places.toNat:Nat):Int):=by
  rw[Int.natCast_mul];have e1:((c.beach.rows.toNat:Nat):Int)=c.beach.rows:=by omega
  have e2:((c.beach.places.toNat:Nat):Int)=c.beach.places:=by omega
  rw[e1,e2]
 have hwz:IntKind.i64.wrap ((c.beach.rows.toNat*c.beach.places.toNat:Nat):Int)=((c.beach.rows.toNat*c.beach.places.toNat:Nat):Int):=AS (by omega) (by omega);have qG:∀n,AW Tryz.prog kn (AE Tryz.prog ann kn (n+200)) 26 [.agg (AD c),i 0]=some (sl ((IB c 0).map B0)):=fun n=>AAD n c (by omega) 0;rw[zN]at qG;have q:=A80 c hc (B6 c []) (by omega) (fun g hg=>by have:=hmem g hg;omega) ws hws (B6 c []).length 0 1 [] (by omega) rfl (by simp);unfold PB;revert q;cases hT:eT c (B6 c []) ws (B6 c []).length 0 []with
 |none=>
  intro q
  obtain⟨c',q⟩:=q
  have q:=fun n m=>q n (m+101) (by omega)
  generalize sl ((B6 c []).map B0)=GG at *
  generalize c.beach.rows.toNat*c.beach.places.toNat=z at *
  simp only[AD]at q qG⊢
  simp[iT]at q
  simp[c56,AG,qG,hzm,hwz,q,iT,AR,AY,AQ,AH,AL,AF]
 |some ss=>
  intro q
  obtain⟨fr,c',g2,g6,g7,q⟩:=q
  have q:=fun n m=>q n (m+101) (by omega)
  have qI:=fun n=>oG n c (by omega) (by omega) (by omega) (fun l hl=>by have:=hc.cr l hl;omega) (B6 c []) (by omega) ss (fun g hg=>by have:=hmem g hg;omega)
  rw[eY hc]at qI
  have hcg:∀e∈(B6 c []).map B0,∀v∈e,AK 8 v=true:=fun e he v hv=>by obtain⟨l,_,rfl⟩:=List.mem_map.1 he;simp only[B0,List.mem_cons,List.not_mem_nil,or_false]at hv;rcases hv with rfl|rfl<;>rfl
  have hcs:∀e∈ss.map AF,∀v∈e,AK 8 v=true:=fun e he v hv=>by obtain⟨l,_,rfl⟩:=List.mem_map.1 he;simp only[AF,List.mem_cons,List.not_mem_nil,or_false]at hv;rcases hv with rfl|rfl<;>rfl
  have hcs7:∀e∈ss.map AF,∀v∈e,AK 7 v=true:=fun e he v hv=>by obtain⟨l,_,rfl⟩:=List.mem_map.1 he;simp only[AF,List.mem_cons,List.not_mem_nil,or_false]at hv;rcases hv with rfl|rfl<;>rfl
  generalize (B6 c []).map B0=GG at *
  generalize ss.map AF=SS at *
  have hcg:=eq_true hcg
  have hcs:=eq_true hcs
  have hcs7:=eq_true hcs7
  generalize c.beach.rows.toNat*c.beach.places.toNat=z at *
  simp only[AD]at q qG qI⊢
  simp[iT]at q
  simp[c56,AG,qG,qI,hcg,hcs,hcs7,hzm,hwz,q,g2,g6,g7,iT,AR,AY,AQ,AH,AL,AF]
theorem eU:∀(l:List Int) (z:Int×Int),((DJ z l).1=z.1∨(DJ z l).1∈l)∧((DJ z l).2=z.2∨(DJ z l).2∈l)
 |[],z=>⟨Or.inl rfl,Or.inl rfl⟩
 |x::l,z=>by
  have ih:=eU l (min z.1 x,max z.2 x);have e:DJ z (x::l)=DJ (min z.1 x,max z.2 x) l:=rfl;rw[e];simp only at ih;refine⟨?_,?_⟩
  ·rcases ih.1 with h|h
   ·by_cases hx:z.1≤x
    ·exact Or.inl (by rw[h];omega)
    ·exact Or.inr (by rw[h,show min z.1 x=x by omega];simp)
   ·exact Or.inr (List.mem_cons_of_mem _ h)
  ·rcases ih.2 with h|h
   ·by_cases hx:x≤z.2
    ·exact Or.inl (by rw[h];omega)
    ·exact Or.inr (by rw[h,show max z.2 x=x by omega];simp)
   ·exact Or.inr (List.mem_cons_of_mem _ h)
theorem AF2{l:List Int}(hne:l≠[])(hb:∀x∈l,0≤x∧x≤1000):(DJ C8 l).1∈l∧(DJ C8 l).2∈l:=by
 cases l with
 |nil=>exact absurd rfl hne
 |cons x l=>
  have hx:=hb x (by simp)
  have e:DJ C8 (x::l)=DJ (x,x) l:=by show DJ (min 1099511627776 x,max (-1) x) l=_;rw[show min 1099511627776 x=x by omega,show max (-1) x=x by omega]
  rw[e]
  obtain⟨h1,h2⟩:=eU l (x,x)
  refine⟨?_,?_⟩
  ·rcases h1 with h|h
   ·rw[h];simp
   ·exact List.mem_cons_of_mem _ h
  ·rcases h2 with h|h
   ·rw[h];simp
   ·exact List.mem_cons_of_mem _ h
def PC(c:A0)(ss:List (Int×Int))(k:Nat)(t:List Int):Int:=NT (HY c t) (ss.getD k (0,0)).1.toNat (ss.getD k (0,0)).2.toNat (KJ c k).size.toNat
theorem AK7{c:A0}(hc:D8 c){ss:List (Int×Int)}(hs:EP c ss=true){k:Nat}(hk:k<c.fams.length)(hkB:k<(CG c ss).length):(BU c.beach).any (fun t=>decide (PC c ss k t=(CG c ss)[k].1))=true∧(BU c.beach).any (fun t=>decide (PC c ss k t=(CG c ss)[k].2))=true:=by
 have hsl:(BA c ss).length=c.fams.length:=D0 (GU hc hs).1;have hl:=(GU hc hs).1;have hkq:k<(BA c ss).length:=by omega
 have hks:k<ss.length:=by omega
 have hat:(BA c ss)[k]=⟨k,c.fams[k].size,ss[k].1,ss[k].2⟩:=by have e:=K9 (k:=0) (fs:=c.fams) (ss:=ss) k hk hks hkq;rw[Nat.zero_add]at e;exact e
 have e1:(BU c.beach).map (fun t=>(E3 c ss t).getD k 0)=(BU c.beach).map (PC c ss k):=by apply List.map_congr_left;intro t _;rw[E3,List.getD_eq_getElem?_getD,List.getElem?_map,List.getElem?_eq_getElem hkq,hat,PC,KJ,List.getD_eq_getElem?_getD,List.getD_eq_getElem?_getD,List.getElem?_eq_getElem hks,List.getElem?_eq_getElem hk];rfl
 have e2:(CG c ss)[k]=DJ C8 ((BU c.beach).map (PC c ss k)):=by
  have:(CG c ss)[k]? = ((List.range c.fams.length).map fun q=>DJ C8 ((BU c.beach).map fun t=>(E3 c ss t).getD q 0))[k]?:=by rw[aR hc hs]
  rw[List.getElem?_eq_getElem hkB,List.getElem?_map,List.getElem?_range hk]at this;simp only[Option.map_some,Option.some.injEq]at this;rw[this,e1]
 have hne:(BU c.beach).map (PC c ss k)≠[]:=by have:=hc.tr;simpa using this
 obtain⟨h1,h2⟩:=AF2 hne (fun y hy=>by
  rw[← e1]at hy;obtain⟨t,ht,rfl⟩:=List.mem_map.1 hy;have:=aQ hc hs ((PW _ _).2 ht) ((E3 c ss t).getD k 0) (by
   rw[List.getD_eq_getElem?_getD,List.getElem?_eq_getElem (by simp[E3,hsl]; exact hk)];exact List.getElem_mem _)
  omega)
 rw[←e2]at h1 h2;refine⟨?_,?_⟩
 ·obtain⟨t,ht,e⟩:=List.mem_map.1 h1;exact List.any_eq_true.2 ⟨t,ht,by simpa using e⟩
 ·obtain⟨t,ht,e⟩:=List.mem_map.1 h2;exact List.any_eq_true.2 ⟨t,ht,by simpa using e⟩
theorem AOO(c:A0)(hc:D8 c)(ss:List (Int×Int))(hs:EP c ss=true)(k:Nat)(hk:k<c.fams.length)(hkB:k<(CG c ss).length)(T:List (List Int))(hT:∀t∈T,AV t c.beach.winds=true)(hTl:T.length≤2000)(g:Nat):∀(d j:Nat),j+d=T.length→∃fr,BQ fr 12=some (true,.bool (T.any fun t=>decide (PC c ss k t=(CG c ss)[k].1)))∧BQ fr 13=some (true,.bool (T.any fun t=>decide (PC c ss k t=(CG c ss)[k].2)))∧∀n m,d<m→A9 (AE Tryz.prog ann kn (n+2700) 119) S2 (ann 119 (BS S2)) m ⟨g,[(3,true,.ptr 0 3 0 0),(7,true,.list false (ss.map AF)),(9,true,i k),(10,true,.list false ((CG c ss).map DX)),(12,true,.bool ((T.take j).any fun t=>decide (PC c ss k t=(CG c ss)[k].1))),(13,true,.bool ((T.take j).any fun t=>decide (PC c ss k t=(CG c ss)[k].2))),(14,true,.list false (T.map AL)),(15,true,i j)],⟨[],[(3,0,.box (AD c))]⟩⟩ =
  some (.exit 0,⟨g,fr,⟨[],[(3,0,.box (AD c))]⟩⟩)
 |0,j,hd=>by
  obtain rfl:j=T.length:=by omega
  rw[List.take_length];generalize T.any (fun t=>decide (PC c ss k t=(CG c ss)[k].1))=A;generalize T.any (fun t=>decide (PC c ss k t=(CG c ss)[k].2))=B;generalize CG c ss=BB;refine⟨?fr,?g1,?g2,fun n m hm=>?g9⟩;case g9=>
   obtain⟨m,rfl⟩:∃m',m=m'+1:=⟨m-1,by omega⟩
   rw[AB]
   simp[AD]
   rfl
  all_goals simp
 |d+1,j,hd=>by
  have hj:j<T.length:=by omega
  have hw:=BJ (k:=j) (by omega);have hsl:(BA c ss).length=c.fams.length:=D0 (GU hc hs).1;have hl:=(GU hc hs).1;have hks:k<ss.length:=by omega
  have hkq:k<(BA c ss).length:=by omega
  have hat:(BA c ss)[k]=⟨k,c.fams[k].size,ss[k].1,ss[k].2⟩:=by have e:=K9 (k:=0) (fs:=c.fams) (ss:=ss) k hk hks hkq;rw[Nat.zero_add]at e;exact e
  obtain⟨x1,x2,x3,x4,x5⟩:=(GU hc hs).2 _ (List.getElem_mem hkq);rw[hat]at x1 x2 x3 x4 x5;simp only at x1 x2 x3 x4 x5;have hl5:=hc.be.hl;have hro:=hc.be.ro;have hpl:=hc.be.pl;have hpo:=fI hc.pl;have htl:=hT _ (List.getElem_mem hj);have hlw:=BZ htl;obtain⟨o1,o2,o3⟩:=WV hc T[j] (by omega);have hrow:=iQ hc T[j] (by omega) x1 x2;have qH:=fun n=>A8X n c c.fams[k] (HY c T[j]) (fun l hl x hx=>by have:=o3 l hl x hx;omega) ss[k] x1 (by rw[o1];omega) x3 (by omega) (by rw[hrow];omega) (by rw[hrow];omega);have eH:NT (HY c T[j]) ss[k].1.toNat ss[k].2.toNat c.fams[k].size.toNat=PC c ss k T[j]:=by rw[PC,KJ,List.getD_eq_getElem?_getD,List.getD_eq_getElem?_getD,List.getElem?_eq_getElem hks,List.getElem?_eq_getElem hk];rfl
  rw[eH]at qH;have qR:=fun n=>AFF n c.beach hc.be c.plan hpo T[j] htl;rw[AKN hc.be hpo htl]at qR;have hne:DC c.beach c.plan T[j] c.beach.rows.toNat≠[]:=fun e=>by have e2:=congrArg List.length e;simp[DC]at e2;omega
  rw[slX hne]at qR;obtain⟨fr,f1,f2,ih⟩:=AOO c hc ss hs k hk hkB T hT hTl g d (j+1) (by omega);refine⟨fr,f1,f2,fun n m hm=>?_⟩;obtain⟨m,rfl⟩:∃m',m=m'+1:=⟨m-1,by omega⟩;have ih:=ih n m (by omega);rw[List.take_succ_eq_append_getElem hj,List.any_append,List.any_append]at ih;simp only[List.any_cons,List.any_nil,Bool.or_false]at ih;clear f1 f2;generalize (T.take j).any (fun t=>decide (PC c ss k t=(CG c ss)[k].1))=A at *;generalize (T.take j).any (fun t=>decide (PC c ss k t=(CG c ss)[k].2))=B at *;generalize PC c ss k T[j]=N at *;generalize F8 (HY c T[j]) c.fams[k].good ss[k].1.toNat ss[k].2.toNat c.fams[k].size.toNat=HP at *;simp only[HY]at qH;generalize DC c.beach c.plan T[j] c.beach.rows.toNat=H at *;generalize hX:(CG c ss)[k]=X at *;generalize CG c ss=BB at *;rw[AB];simp only[AD,AC,AQ,AF]at ih qH qR ⊢;simp at ih;cases A <;> cases B <;> (
   simp at ih
   simp[hk,hj,hw,hks,hkB,hX,AQ,AF,DX,AR,AY,AH,AL,BO,CH,qH,qR,E1,ih])
theorem AK8(k:IntKind)(n:Int):H3 Tryz.prog 5 3 (.int k n)=some (.int .i64 (IntKind.i64.wrap n)):=by kernel_rfl
set_option maxHeartbeats 4000000 in
theorem zO(n:Nat)(c:A0)(_:okC c)(ws:List Nat)(hws:∀w∈ws,w≤65535)(κ:Nat)(hκ:κ≤255):EX Tryz.prog (AE Tryz.prog ann kn (n+9600)) 10 [.agg (AD c),.list false (ws.map I5),.int .u8 κ]=some (.bool true):=by
 rw[AO Tryz.func10 b10 rfl (by simp[AD,AH,AL,AF,AR,AY,AQ,I5])];have qr:=fun n=>AK6 n c;cases hR:iE c with
 |false=>
  rw[hR]at qr
  simp only[AD]at qr⊢
  simp[c10,AG,qr,AH,AL,AF,I5,AR,AY,AQ,W7]
 |true=>
 rw[hR]at qr;simp only[iE,Bool.and_eq_true,decide_eq_true_eq]at hR;obtain⟨hT,h0⟩:=hR;have hc:=PD h0;obtain⟨t1,t2,t3,t4,t5,t6⟩:=QR hT;obtain⟨l1,l2,l3,l4,l5,l6⟩:=bD t1;by_cases hf:c.fams=[]
 ·have hf:=eq_true hf;simp only[AD]at qr⊢;simp[c10,AG,qr,hf,AH,AL,AF,I5,AR,AY,AQ,W7]
 have hfl:=hc.fl;have hro:=hc.be.ro;have hlf:0<c.fams.length:=List.length_pos_iff.2 hf;have qT:=fun n=>AUO n c hc ws hws;cases hs:(PB c ws).2 with
 |false=>
  rw[hs]at qT
  generalize (PB c ws).1=ss at *
  have hcs:∀e∈ss.map AF,∀v∈e,AK 7 v=true:=fun e he v hv=>by obtain⟨l,_,rfl⟩:=List.mem_map.1 he;simp only[AF,List.mem_cons,List.not_mem_nil,or_false]at hv;rcases hv with rfl|rfl<;>rfl
  generalize ss.map AF=SS at *
  have hcs:=eq_true hcs
  simp only[AD]at qr qT⊢
  simp[c10,AG,qr,hf,qT,hcs,AH,AL,AF,I5,AR,AY,AQ,W7]
 |true=>
 rw[hs]at qT;have hss:EP c (PB c ws).1=true:=by have h:=hs;unfold PB at h⊢;split at h<;>simp_all
 generalize (PB c ws).1=ss at *;have hl:=(GU hc hss).1;have hsl:sl (ss.map AF)=.list false (ss.map AF):=by
  cases ss with
  |nil=>simp at hl;omega
  |cons x ss=>rfl
 rw[hsl]at qT;have qC:=fun n=>AO1 n c hT;have qS:=fun n=>AGN n ss (by omega);rw[hsl]at qS;have qB:=fun n=>AEA n c l4 (by omega) ss;have e0:F1 c ss=0:=by simp[F1,h0,hss]
 rw[e0,if_pos rfl]at qB;have hBl:(CG c ss).length=ss.length:=by rw[aR hc hss,hl];simp
 have hslB:sl ((CG c ss).map DX)=.list false ((CG c ss).map DX):=by
  cases hb:CG c ss with
  |nil=>rw[hb]at hBl;simp at hBl;omega
  |cons x l=>rfl
 rw[hslB]at qB;have qt:=fun n=>cM n c.beach hc.be;rw[slX hc.tr]at qt;have hTl:=nS hc.be;have hkm:κ % c.fams.length<c.fams.length:=Nat.mod_lt _ hlf;have hkB:κ % c.fams.length<(CG c ss).length:=by omega
 obtain⟨a1,a2⟩:=AK7 hc hss hkm hkB;obtain⟨fr,f12,f13,q⟩:=AOO c hc ss hss (κ % c.fams.length) hkm hkB (BU c.beach) (fun t ht=>JB ht) (by omega) 1 (BU c.beach).length 0 (by omega);rw[a1]at f12;rw[a2]at f13;have q:=fun n m=>q n (m+1101) (by omega);simp only[List.take_zero,List.any_nil]at q;have hmd:(κ:Int).tmod (c.fams.length:Int)=((κ % c.fams.length:Nat):Int):=(Int.ofNat_tmod _ _).symm;have hwk:IntKind.i64.wrap (κ:Int)=(κ:Int):=AS (by omega) (by omega);have hwm:IntKind.i64.wrap ((κ % c.fams.length:Nat):Int)=((κ % c.fams.length:Nat):Int):=AS (by omega) (by omega);generalize κ % c.fams.length=k at *;generalize BU c.beach=T at *;generalize CG c ss=BB at *;simp only[AD,AC,eZ,J9]at qr qT qC qS qB qt q⊢;simp at q;simp[c10,AG,qr,hf,qT,qC,qS,qB,qt,q,f12,f13,hBl,hmd,hwk,hwm,AK8,AH,AL,AF,DX,I5,AR,AY,AQ,W7,E1]
end Go.Proofs.Tryz.Op
