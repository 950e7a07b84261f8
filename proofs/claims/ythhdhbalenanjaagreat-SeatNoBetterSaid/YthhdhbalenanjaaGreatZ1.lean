/- The walk of SeatPlays. No condition. -/
import Derived.Test.YthhdhbalenanjaaGreatD1
open Go.Proofs.Tryz renaming prog->bf
open List renaming getD_eq_getElem?_getD->bj,getElem?_eq_getElem->bk,not_mem_nil->bq,mem_cons->bb,mem_map->bc
open Nat renaming mul_le_mul->bx,mod_lt->bz
set_option maxRecDepth 100000
set_option linter.unusedSimpArgs false
open Go Go.Pg Go.Proofs Go.Wind
namespace Go.Proofs.Tryz.Op
theorem QT(n:Nat)(d:Option Tmp)(st:XS):G6 (BO bf ann kn n) d st 19 []=EL d st (some (.bool true)):=by rw[eA d rfl (by simp)];rfl
theorem eK{b:AN}(h:YE b=true):b.face.length<=100/\b.sun.length<=100/\b.winds.length<=100/\(∀l∈b.winds,l.length<=40)/\b.breaks.length<=100/\b.notes.length<=100:=by simp only[YE,Bool.and_eq_true,Bool.not_eq_true',Bool.or_eq_false_iff,Bool.not_eq_false',decide_eq_false_iff_not]at h;obtain⟨⟨⟨⟨⟨h1,h2⟩,h3⟩,h4⟩,h5⟩,_⟩:=h;obtain⟨h6,h7⟩:=XH h3;exact⟨by omega,by omega,by omega,fun l hl=>by have:=h7 l hl;omega,by omega,by omega⟩
theorem AZB(n:Nat)(ws:List Nat)(hw:∀w∈ws,w<=65535)(k:Nat):A2 bf kn (AE bf ann kn (n+100)) 103 [.list false (ws.map I4),i k]=some (i (FY ws k)):=by
 rw[AO rfl,AP Tryz.func103 BII rfl (by simp[I4])];unfold FY;by_cases h:ws.length=0
 ·have h':ws=[]:=List.length_eq_zero_iff.1 h;simp[AT2,AG,h']
 ·have h':ws≠[]:=by intro e;exact h (by rw[e];rfl)
  have hmod:(k:Int).tmod (ws.length:Int)=((k % ws.length:Nat):Int):=(Int.ofNat_tmod _ _).symm;have hml:k % ws.length<ws.length:=bz _ (by omega);have hx:ws.getD (k % ws.length) 0=ws[k % ws.length]:=by rw[bj,bk hml];rfl
  have hwl:=hw _ (List.getElem_mem hml);rw[if_neg h,hx];generalize k % ws.length=Y at *;have hwr:IntKind.i64.wrap (ws[Y]:Int)=(ws[Y]:Int):=AU (by omega) (by omega);simp[AT2,AG,I4,h',hmod,hml,hwr,BC1]
def lV(c:AV):Bool:=ZF c&&decide (FG c=0)
theorem APD(n:Nat)(c:AV):A2 bf kn (AE bf ann kn (n+2600)) 54 [.agg (AD c)]=some (.bool (lV c)):=by
 rw[AO rfl,AP Tryz.func54 b54 rfl (by simp[AD,AR,A4,AS,AJ,AL,AF])];have qT:=fun n=>ATB n c;unfold lV;cases hT:ZF c with
 |false=>
  rw[hT]at qT
  simp only[AD]at qT|-
  simp[c54,AG,qT,AJ,AL,AF,AR,A4,AS]
 |true=>
  rw[hT]at qT
  obtain⟨t1,t2,t3,t4,t5,t6⟩:=RT hT
  obtain⟨l1,l2,l3,l4,l5,l6⟩:=eK t1
  have qf:=fun n=>AKN n c (fun l hl=>by have:=l4 l hl;omega) (by omega) (by omega)
  generalize FG c=E at *
  simp only[AD]at qT qf|-
  simp[c54,AG,qT,qf,AJ,AL,AF,AR,A4,AS]
def JX(c:AV)(ws:List Nat)(k j:Nat):Int×Int:=((((FY ws k+j) % (c.beach.rows.toNat*c.beach.places.toNat) / c.beach.places.toNat:Nat):Int),(((FY ws k+j) % (c.beach.rows.toNat*c.beach.places.toNat) % c.beach.places.toNat:Nat):Int))
def OI(c:AV)(G:List (Nat×Int))(ws:List Nat)(acc:List (Int×Int))(k:Nat):Nat->Nat->Option (Int×Int)
 |0,_=>none
 |e+1,j=>if HN c G (acc++[JX c ws k j]) acc.length=true then some (JX c ws k j) else OI c G ws acc k e (j+1)
def jE(c:AV)(G:List (Nat×Int))(ws:List Nat):Nat->Nat->List (Int×Int)->Option (List (Int×Int))
 |0,_,acc=>some acc
 |e+1,k,acc=>match OI c G ws acc k (c.beach.rows.toNat*c.beach.places.toNat) 0 with
  |some x=>jE c G ws e (k+1) (acc++[x])
  |none=>none
def G8(c:AV)(ws:List Nat):List (Int×Int)×Bool:=match jE c (AY c []) ws (AY c []).length 0 []with
 |some ss=>(ss,D3 c ss)
 |none=>([],false)
theorem eL{c:AV}{G:List (Nat×Int)}{ws:List Nat}{acc:List (Int×Int)}{k:Nat}:∀{e j:Nat} {x:Int×Int},OI c G ws acc k e j=some x->∃j',x=JX c ws k j'
 |0,j,x,h=>by cases h
 |e+1,j,x,h=>by
  unfold OI at h;split at h
  ·exact⟨j,(Option.some.inj h).symm⟩
  ·exact eL h
theorem BDP{k:Nat}{x:Int×Int}(h:k<=10000):B9 bf 59 k [[i x.1,i x.2]]=true:=by rw[CB (by simp) (by simp)];simp[maxLen];omega
theorem AS1{ss:List (Int×Int)}(h:ss.length<=10000):B9 bf 59 0 (ss.map AF)=true:=by
 cases ss with
 |nil=>rfl
 |cons x l=>
  rw[CB (by simp) (by simp)]
  simp[maxLen,AF]at h|-;omega
section
variable (c:AV)(hc:B5 c)(G:List (Nat×Int))(hG:G.length<=10)(hf:∀g∈G,g.1<c.fams.length/\0<=g.2/\g.2<=4)(ws:List Nat)(hws:∀w∈ws,w<=65535)
include hc hG hf hws
theorem BDQ(k:Nat)(acc:List (Int×Int))(hk:k<G.length)(hl:acc.length=k)(ha:∀s∈acc,0<=s.2/\s.2<=1000):∀(e j cc:Nat),j+e=c.beach.rows.toNat*c.beach.places.toNat->∃fr c',BC fr 1=some (true,.list false (ws.map I4))/\BC fr 2=some (true,.ptr 0 2 0 0)/\BC fr 6=some (true,.list false (G.map AZ))/\BC fr 8=some (true,i (c.beach.rows.toNat*c.beach.places.toNat:Nat))/\BC fr 9=some (true,i k)/\(match OI c G ws acc k e j with
   |some x=>BC fr 7=some (true,sl ((acc++[x]).map AF))/\BC fr 10=some (true,.bool true)
   | none=>BC fr 7=some (true,sl (acc.map AF))/\BC fr 10=some (true,.bool false)) /\
  ∀n m,e+1<m->BF (AE bf ann kn (n+1200) 73) aF (ann 73 (BW aF)) m ⟨cc,[(1,true,.list false (ws.map I4)),(2,true,.ptr 0 2 0 0),(6,true,.list false (G.map AZ)),(7,true,sl (acc.map AF)),(8,true,i (c.beach.rows.toNat*c.beach.places.toNat:Nat)),(9,true,i k),(10,true,.bool false),(11,true,i j)],⟨[],[(2,0,.box (AD c))]⟩⟩ =
   some (.exit 2,⟨c',fr,⟨[],[(2,0,.box (AD c))]⟩⟩)
 |0,j,cc,hd=>by
  obtain rfl:j=c.beach.rows.toNat*c.beach.places.toNat:=by omega
  generalize c.beach.rows.toNat*c.beach.places.toNat=z at *;generalize hA:sl (acc.map AF)=A at *;refine⟨?fr,cc,?g1,?g2,?g3,?g4,?g5,?g6,fun n m hm=>?g9⟩;case g9=>
   obtain⟨m,rfl⟩:=qNz m (by omega)
   rw[AB]
   simp[AD]
   rfl
  all_goals simp[OI,hA]
 |e+1,j,cc,hd=>by
  have hro:=hc.be.ro;have hpl:=hc.be.pl;have hz:c.beach.rows.toNat*c.beach.places.toNat<=1000*1000:=bx (by omega) (by omega);have hw0:=AMP hws k;have hw1:IntKind.i64.wrap ((j:Int)+1)=(j:Int)+1:=AU (by omega) (by omega);have hw2:IntKind.i64.wrap ((FY ws k:Int)+(j:Int))=((FY ws k+j:Nat):Int):=by rw[AU (by omega) (by omega)];omega
  have hzp:0<c.beach.rows.toNat*c.beach.places.toNat:=by omega
  have hP:0<c.beach.places.toNat:=by refine Nat.pos_of_ne_zero fun e0=>?_;rw[e0,Nat.mul_zero]at hzp;omega
  have hz0:¬((c.beach.rows.toNat*c.beach.places.toNat:Nat):Int)=0:=by omega
  have hp0:¬c.beach.places=0:=by omega
  have hPp:c.beach.places=((c.beach.places.toNat:Nat):Int):=by omega
  have ej:JX c ws k j=JX c ws k j:=rfl;have t1:((FY ws k+j:Nat):Int).tmod ((c.beach.rows.toNat*c.beach.places.toNat:Nat):Int)=(((FY ws k+j) % (c.beach.rows.toNat*c.beach.places.toNat):Nat):Int):=(Int.ofNat_tmod _ _).symm;have t2:(((FY ws k+j) % (c.beach.rows.toNat*c.beach.places.toNat):Nat):Int).tdiv c.beach.places=(JX c ws k j).1:=by rw[hPp];exact(Int.ofNat_tdiv _ _).symm
  have t3:(((FY ws k+j) % (c.beach.rows.toNat*c.beach.places.toNat):Nat):Int).tmod c.beach.places=(JX c ws k j).2:=by rw[hPp];exact(Int.ofNat_tmod _ _).symm
  have b1:(JX c ws k j).1=(((FY ws k+j) % (c.beach.rows.toNat*c.beach.places.toNat) / c.beach.places.toNat:Nat):Int):=rfl;have b2:(JX c ws k j).2=(((FY ws k+j) % (c.beach.rows.toNat*c.beach.places.toNat) % c.beach.places.toNat:Nat):Int):=rfl;have hY:(FY ws k+j) % (c.beach.rows.toNat*c.beach.places.toNat)<c.beach.rows.toNat*c.beach.places.toNat:=bz _ hzp;have hdl:=Nat.div_le_self ((FY ws k+j) % (c.beach.rows.toNat*c.beach.places.toNat)) c.beach.places.toNat;have hml:=bz ((FY ws k+j) % (c.beach.rows.toNat*c.beach.places.toNat)) hP;have w1:IntKind.i64.wrap (((FY ws k+j) % (c.beach.rows.toNat*c.beach.places.toNat):Nat):Int)=(((FY ws k+j) % (c.beach.rows.toNat*c.beach.places.toNat):Nat):Int):=AU (by omega) (by omega);obtain⟨u1,hu1,hu2⟩:∃u:Nat,(JX c ws k j).1=(u:Int)/\u<=1000000:=⟨_,b1,Nat.le_trans hdl (Nat.le_trans (Nat.le_of_lt hY) hz)⟩;obtain⟨v1,hv1,hv2⟩:∃v:Nat,(JX c ws k j).2=(v:Int)/\v<=1000:=⟨_,b2,by omega⟩;have w3:IntKind.i64.wrap (JX c ws k j).1=(JX c ws k j).1:=by rw[hu1];exact AU (by omega) (by omega)
  have w4:IntKind.i64.wrap (JX c ws k j).2=(JX c ws k j).2:=by rw[hv1];exact AU (by omega) (by omega)
  have hlj:(j:Int)<((c.beach.rows.toNat*c.beach.places.toNat:Nat):Int):=by omega
  have qw:=fun n=>AZB n ws hws k;have hla:(acc++[JX c ws k j]).length=k+1:=by simp[hl]
  have qS:=fun n=>APP n c (by omega) (by omega) G (acc++[JX c ws k j]) k (by omega) (by omega) (by omega) hf (fun q hq=>by
   have hq1:q<acc.length:=by omega
   have e:(AW G (acc++[JX c ws k j]) q).place=(acc[q]).2:=by simp[AW,bj,List.getElem?_append_left hq1,bk hq1]
   rw[e];exact ha _ (List.getElem_mem hq1))
  have ha1:=AS1 (ss:=acc) (by omega);have ha0:B9 bf 59 0 []=true:=AS1 (ss:=[]) (by simp);have hz1:¬c.beach.rows.toNat*c.beach.places.toNat=0:=by omega
  have ha2:=BDP (k:=acc.length) (x:=JX c ws k j) (by omega);clear hml hdl b1 b2 hu1 hu2 hv1 hv2 hPp ej hY hzp;generalize (FY ws k+j) % (c.beach.rows.toNat*c.beach.places.toNat)=Y at *;generalize hW:FY ws k+j=WJ at *;cases hS:HN c G (acc++[JX c ws k j]) k with
  |true=>
   have et:OI c G ws acc k (e+1) j=some (JX c ws k j):=by unfold OI;rw[if_pos (by rw[hl];exact hS)]
   rw[et]
   rw[hS]at qS
   generalize JX c ws k j=X at *
   generalize c.beach.rows.toNat*c.beach.places.toNat=z at *
   have hsl:sl (acc.map AF++[AF X])=.list false (acc.map AF++[AF X]):=by cases acc<;>rfl
   simp only[AD]at qS|-
   simp[AF]at qS ha1 ha2
   cases acc with
   |nil=>
    simp at qS ha2
    by_cases hj1:(j:Int)+1<(z:Int)
    all_goals (
     refine⟨?_,cc+1+1,?_,?_,?_,?_,?_,?_,fun n m hm=>?_⟩
     rotate_left 7
     ·obtain⟨m,rfl⟩:∃m',m=m'+1+1:=⟨m-2,by omega⟩;rw[AB];simp[hlj,hj1,hw1,hw2,hz0,hz1,hp0,t1,t2,t3,w1,w3,w4,qw,qS,ha0,ha1,ha2,AF,I4,AZ,AR,A4,AS,AL,AJ,C0,GK,A3,BV,B7,BD,EX,EG,jM,sS];rw[AB];simp[hlj,hj1,hw1,hw2,hz0,hz1,hp0,t1,t2,t3,w1,w3,w4,qw,qS,ha0,ha1,ha2,AF,I4,AZ,AR,A4,AS,AL,AJ,C0,GK,A3,BV,B7,BD,EX,EG,jM,sS];rfl
     all_goals simp[sS,AF])
   |cons a acc=>
    simp[AF]at qS ha1 ha2
    by_cases hj1:(j:Int)+1<(z:Int)
    all_goals (
     refine⟨?_,cc+1+1,?_,?_,?_,?_,?_,?_,fun n m hm=>?_⟩
     rotate_left 7
     ·obtain⟨m,rfl⟩:∃m',m=m'+1+1:=⟨m-2,by omega⟩;rw[AB];simp[hlj,hj1,hw1,hw2,hz0,hz1,hp0,t1,t2,t3,w1,w3,w4,qw,qS,ha0,ha1,ha2,AF,I4,AZ,AR,A4,AS,AL,AJ,C0,GK,A3,BV,B7,BD,EX,EG,jM,sS];rw[AB];simp[hlj,hj1,hw1,hw2,hz0,hz1,hp0,t1,t2,t3,w1,w3,w4,qw,qS,ha0,ha1,ha2,AF,I4,AZ,AR,A4,AS,AL,AJ,C0,GK,A3,BV,B7,BD,EX,EG,jM,sS];rfl
     all_goals simp[sS,AF])
  |false=>
   have et:OI c G ws acc k (e+1) j=OI c G ws acc k e (j+1):=by show(if HN c G (acc++[JX c ws k j]) acc.length=true then some (JX c ws k j) else OI c G ws acc k e (j+1))=_;rw[if_neg (by rw[hl,hS];decide)]
   rw[et]
   rw[hS]at qS
   obtain⟨fr,c',f1,f2,f6,f8,f9,f7,ih⟩:=BDQ k acc hk hl ha e (j+1) (cc+1+1) (by omega)
   refine⟨fr,c',f1,f2,f6,f8,f9,f7,fun n m hm=>?_⟩
   clear f7
   obtain⟨m,rfl⟩:=qNz m (by omega)
   have ih:=ih n m (by omega)
   generalize JX c ws k j=X at *
   generalize c.beach.rows.toNat*c.beach.places.toNat=z at *
   rw[AB]
   simp only[AD]at qS ih|-
   simp[AF]at qS ha1 ha2
   cases acc with
   |nil=>
    simp[jM]at qS ha2 ih
    simp[hlj,hw1,hw2,hz0,hz1,hp0,t1,t2,t3,w1,w3,w4,qw,qS,ha0,ha1,ha2,AF,I4,AZ,AR,A4,AS,AL,AJ,C0,GK,A3,BV,B7,BD,EX,EG,jM,sS,ih]
   |cons a acc=>
    simp[sS,AF]at qS ha1 ha2 ih
    simp[hlj,hw1,hw2,hz0,hz1,hp0,t1,t2,t3,w1,w3,w4,qw,qS,ha0,ha1,ha2,AF,I4,AZ,AR,A4,AS,AL,AJ,C0,GK,A3,BV,B7,BD,EX,EG,jM,sS,ih]
theorem BDR:∀(d k cc:Nat) (acc:List (Int×Int)),k+d=G.length->acc.length=k->(∀s∈acc,0<=s.2/\s.2<=1000)->match jE c G ws d k acc with
  |some ss=>∃fr c',BC fr 2=some (true,.ptr 0 2 0 0)/\BC fr 6=some (true,sl (G.map AZ))/\BC fr 7=some (true,sl (ss.map AF))/\∀n m,d<m->BF (AE bf ann kn (n+1400) 73) RZ (ann 73 (BW RZ)) m ⟨cc,[(1,true,.list false (ws.map I4)),(2,true,.ptr 0 2 0 0),(6,true,sl (G.map AZ)),(7,true,sl (acc.map AF)),(8,true,i (c.beach.rows.toNat*c.beach.places.toNat:Nat)),(9,true,i k)],⟨[],[(2,0,.box (AD c))]⟩⟩ =
   some (.exit 0,⟨c',fr,⟨[],[(2,0,.box (AD c))]⟩⟩)
  |none=>∃c',∀n m,d<m->BF (AE bf ann kn (n+1400) 73) RZ (ann 73 (BW RZ)) m ⟨cc,[(1,true,.list false (ws.map I4)),(2,true,.ptr 0 2 0 0),(6,true,sl (G.map AZ)),(7,true,sl (acc.map AF)),(8,true,i (c.beach.rows.toNat*c.beach.places.toNat:Nat)),(9,true,i k)],⟨[],[(2,0,.box (AD c))]⟩⟩ =
   some (.ret,⟨c',[(5,true,.bool false),(4,true,.nil)],⟨[],[]⟩⟩)
 |0,k,cc,acc,hd,hl,ha=>by
  obtain rfl:k=G.length:=by omega
  show ∃fr c',_;generalize c.beach.rows.toNat*c.beach.places.toNat=z at *;generalize hA:sl (acc.map AF)=A at *;cases G with
  |nil=>
   refine⟨?fr,cc,?g1,?g2,?g3,fun n m hm=>?g9⟩
   case g9=>
    obtain⟨m,rfl⟩:=qNz m (by omega)
    rw[AB]
    simp[AD,jM]
    rfl
   all_goals simp[jM]
  |cons g G=>
   refine⟨?fr2,cc,?g12,?sW,?g32,fun n m hm=>?lW⟩
   case lW=>
    obtain⟨m,rfl⟩:=qNz m (by omega)
    rw[AB]
    simp[AD,sS]
    rfl
   all_goals simp[sS]
 |d+1,k,cc,acc,hd,hl,ha=>by
  have hk:k<G.length:=by omega
  have hw:=BM (k:=k) (by omega);have hro:=hc.be.ro;have hpl:=hc.be.pl;have hz:c.beach.rows.toNat*c.beach.places.toNat<=5*5:=bx (by omega) (by omega);have hGs:sl (G.map AZ)=.list false (G.map AZ):=by
   cases G with
   |nil=>simp at hk
   |cons g G=>rfl
  rw[hGs];obtain⟨f0,c0,f1,f2,f6,f8,f9,f7,q⟩:=BDQ c hc G hG hf ws hws k acc hk hl ha (c.beach.rows.toNat*c.beach.places.toNat) 0 cc (by omega);unfold jE;cases hT:OI c G ws acc k (c.beach.rows.toNat*c.beach.places.toNat) 0 with
  |none=>
   rw[hT]at f7
   obtain⟨f7,f10⟩:=f7
   refine⟨c0,fun n m hm=>?_⟩
   obtain⟨m,rfl⟩:=qNz m (by omega)
   have q:=fun n m=>q n (m+101) (by omega)
   generalize c.beach.rows.toNat*c.beach.places.toNat=z at *
   generalize sl (acc.map AF)=A at *
   rw[AB]
   simp only[AD]at q|-
   simp at q
   simp[hk,q,f1,f2,f6,f7,f8,f9,f10]
  |some x=>
   rw[hT]at f7
   obtain⟨f7,f10⟩:=f7
   obtain⟨j',hx⟩:=eL hT
   have hP:0<c.beach.places.toNat:=by omega
   have hx2:0<=x.2/\x.2<=1000:=by
    have b2:x.2=(((FY ws k+j') % (c.beach.rows.toNat*c.beach.places.toNat) % c.beach.places.toNat:Nat):Int):=by rw[hx];rfl
    have:=bz ((FY ws k+j') % (c.beach.rows.toNat*c.beach.places.toNat)) hP;obtain⟨v,e1,e2⟩:∃v:Nat,x.2=(v:Int)/\v<=1000:=⟨_,b2,by omega⟩;omega
   have ih:=BDR d (k+1) c0 (acc++[x]) (by omega) (by simp[hl]) (fun s hs=>by
    rcases List.mem_append.1 hs with h|h
    ·exact ha s h
    ·rw[List.mem_singleton.1 h]; exact hx2)
   rw[hGs]at ih
   simp only
   revert ih
   cases hT2:jE c G ws d (k+1) (acc++[x])with
   |none=>
    intro ih
    obtain⟨c',ih⟩:=ih
    refine⟨c',fun n m hm=>?_⟩
    obtain⟨m,rfl⟩:=qNz m (by omega)
    have q:=fun n m=>q n (m+101) (by omega)
    have ih:=ih n m (by omega)
    generalize c.beach.rows.toNat*c.beach.places.toNat=z at *
    generalize sl (acc.map AF)=A at *
    generalize sl ((acc++[x]).map AF)=B at *
    rw[AB]
    simp only[AD]at q ih|-
    simp at q ih
    simp[hk,hw,q,f1,f2,f6,f7,f8,f9,f10,ih]
   |some ss=>
    intro ih
    obtain⟨fr,c',g2,g6,g7,ih⟩:=ih
    refine⟨fr,c',g2,g6,g7,fun n m hm=>?_⟩
    obtain⟨m,rfl⟩:=qNz m (by omega)
    have q:=fun n m=>q n (m+101) (by omega)
    have ih:=ih n m (by omega)
    generalize c.beach.rows.toNat*c.beach.places.toNat=z at *
    generalize sl (acc.map AF)=A at *
    generalize sl ((acc++[x]).map AF)=B at *
    rw[AB]
    simp only[AD]at q ih|-
    simp at q ih
    simp[hk,hw,q,f1,f2,f6,f7,f8,f9,f10,ih]
end
theorem jF(c:AV):HP c 0=AY c []:=by
 have:∀N,G9 0 N=[]:=fun N=>by unfold G9;simp
 unfold HP;rw[this]
theorem AZC(n:Nat)(c:AV)(hc:B5 c)(ws:List Nat)(hws:∀w∈ws,w<=65535):A2 bf kn (AE bf ann kn (n+2000)) 56 [.agg (AD c),.list false (ws.map I4)]=some (.tup [sl ((G8 c ws).1.map AF),.bool (G8 c ws).2]):=by
 rw[AO rfl,AP Tryz.func56 b56 rfl (by simp[AD,AR,A4,AS,AJ,AL,AF,I4])];have hro:=hc.be.ro;have hpl:=hc.be.pl;have hfl:=hc.fl;have hch:=hc.ch;have hgl:=C3 c;have hmem:∀g∈AY c [],g.1<c.fams.length/\1<=g.2/\g.2<=4:=fun g hg=>IV hc [] _ (Nat.le_refl _) g hg;have hz:c.beach.rows.toNat*c.beach.places.toNat<=5*5:=bx (by omega) (by omega);have hzm:c.beach.rows*c.beach.places=((c.beach.rows.toNat*c.beach.places.toNat:Nat):Int):=by
  rw[Int.natCast_mul];have e1:((c.beach.rows.toNat:Nat):Int)=c.beach.rows:=by omega
  have e2:((c.beach.places.toNat:Nat):Int)=c.beach.places:=by omega
  rw[e1,e2]
 have hwz:IntKind.i64.wrap ((c.beach.rows.toNat*c.beach.places.toNat:Nat):Int)=((c.beach.rows.toNat*c.beach.places.toNat:Nat):Int):=AU (by omega) (by omega);have qG:∀n,A2 bf kn (AE bf ann kn (n+200)) 26 [.agg (AD c),i 0]=some (sl ((HP c 0).map AZ)):=fun n=>mS n c (by omega) 0;rw[jF]at qG;have q:=BDR c hc (AY c []) (by omega) (fun g hg=>by have:=hmem g hg;omega) ws hws (AY c []).length 0 1 [] (by omega) rfl (by simp);unfold G8;revert q;cases hT:jE c (AY c []) ws (AY c []).length 0 []with
 |none=>
  intro q
  obtain⟨c',q⟩:=q
  have q:=fun n m=>q n (m+101) (by omega)
  generalize sl ((AY c []).map AZ)=GG at *
  generalize c.beach.rows.toNat*c.beach.places.toNat=z at *
  simp only[AD]at q qG|-
  simp[jM]at q
  simp[c56,AG,qG,hzm,hwz,q,jM,AR,A4,AS,AJ,AL,AF]
 |some ss=>
  intro q
  obtain⟨fr,c',g2,g6,g7,q⟩:=q
  have q:=fun n m=>q n (m+101) (by omega)
  have qI:=fun n=>ZH n c (by omega) (by omega) (by omega) (fun l hl=>by have:=hc.cr l hl;omega) (AY c []) (by omega) ss (fun g hg=>by have:=hmem g hg;omega)
  rw[S7 hc]at qI
  have hcg:∀e∈(AY c []).map AZ,∀v∈e,AH 8 v=true:=fun e he v hv=>by obtain⟨l,_,rfl⟩:=bc.1 he;simp only[AZ,bb,bq,or_false]at hv;rcases hv with rfl|rfl<;>rfl
  have hcs:∀e∈ss.map AF,∀v∈e,AH 8 v=true:=fun e he v hv=>by obtain⟨l,_,rfl⟩:=bc.1 he;simp only[AF,bb,bq,or_false]at hv;rcases hv with rfl|rfl<;>rfl
  have hcs7:∀e∈ss.map AF,∀v∈e,AH 7 v=true:=fun e he v hv=>by obtain⟨l,_,rfl⟩:=bc.1 he;simp only[AF,bb,bq,or_false]at hv;rcases hv with rfl|rfl<;>rfl
  generalize (AY c []).map AZ=GG at *
  generalize ss.map AF=SS at *
  have hcg:=eq_true hcg
  have hcs:=eq_true hcs
  have hcs7:=eq_true hcs7
  generalize c.beach.rows.toNat*c.beach.places.toNat=z at *
  simp only[AD]at q qG qI|-
  simp[jM]at q
  simp[c56,AG,qG,qI,hcg,hcs,hcs7,hzm,hwz,q,g2,g6,g7,jM,AR,A4,AS,AJ,AL,AF]
end Go.Proofs.Tryz.Op
