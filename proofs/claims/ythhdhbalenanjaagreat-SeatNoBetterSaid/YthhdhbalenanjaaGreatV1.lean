/- Contracts of the reference: IsPlan, IsListed, IsTruth. No condition but a valid beach. -/
import Derived.Test.YthhdhbalenanjaaGreatW3
import Derived.Test.YthhdhbalenanjaaGreatFz
import Derived.Test.YthhdhbalenanjaaGreatW4
set_option maxRecDepth 100000
set_option linter.unusedSimpArgs false
open Go Go.Pg Go.Proofs Go.Wind
namespace Go.Proofs.Tryz.Op
theorem tO(b:AK)(hb:Valid b)(pl:List (List Int))(hl:pl.length≤100):∀(d k:Nat),k+d=pl.length→∃fr,(BE fr 1=some (true,G5 pl)∧BE fr 2=some (true,.ptr 0 2 0 0))∧∀n m,d<m→BF (AE Tryz.prog ann kn (n+400) 34) UV (ann 34 (BW UV)) m ⟨1,[(1,true,G5 pl),(2,true,.ptr 0 2 0 0),(5,true,i k)],⟨[],[(2,0,.box (AC b))]⟩⟩ =
  if (pl.drop k).all (fun l=>decide ((l.length:Int)=b.rows)&&E4 l 0)=true then some (.exit 0,⟨1,fr,⟨[],[(2,0,.box (AC b))]⟩⟩) else some (.ret,⟨1,[(4,true,.bool false)],⟨[],[]⟩⟩)
 |0,k,hk=>by
  have:k=pl.length:=by omega
  subst this;refine⟨?fr,?g1,fun n m hm=>?g3⟩;case g3=>
   obtain⟨m,rfl⟩:∃m',m=m'+1:=⟨m-1,by omega⟩
   rw[List.drop_length,AB]
   simp[AC]
   rfl
  case g1=>simp
 |d+1,k,hk=>by
  have hk':k<pl.length:=by omega
  have hw:=BM (k:=k) (by omega);have hro:=hb.ro;obtain⟨fr,e1,ih⟩:=tO b hb pl hl d (k+1) (by omega);rw[List.drop_eq_getElem_cons hk',List.all_cons];by_cases h:(pl[k].length:Int)=b.rows
  ·have q:=fun n=>ABY n pl[k] 0 (by omega);cases hz:E4 pl[k] 0 with
   |true=>
    rw[hz]at q
    simp only[h,decide_true,Bool.true_and]
    refine⟨fr,e1,fun n m hm=>?_⟩
    obtain⟨m,rfl⟩:∃m',m=m'+1:=⟨m-1,by omega⟩
    have ih:=ih n m (by omega)
    rw[AB]
    simp only[AC]at ih⊢
    simp at ih
    simp[hk',hw,AJ,AM,h,q,C5,ih]
   |false=>
    rw[hz]at q
    simp only[h,decide_true,Bool.true_and,Bool.false_and]
    refine⟨fr,e1,fun n m hm=>?_⟩
    obtain⟨m,rfl⟩:∃m',m=m'+1:=⟨m-1,by omega⟩
    rw[AB]
    simp[AC,hk',hw,AJ,AM,h,q,C5]
  ·simp only[h,decide_false,Bool.false_and];refine⟨fr,e1,fun n m hm=>?_⟩;obtain⟨m,rfl⟩:∃m',m=m'+1:=⟨m-1,by omega⟩;rw[AB];simp[AC,hk',hw,AJ,AM,h,C5]
theorem ALA(n:Nat)(b:AK)(hb:Valid b)(pl:List (List Int))(hl:pl.length≤100):A0 Tryz.prog kn (AE Tryz.prog ann kn (n+600)) 116 [.agg (AC b),G5 pl]=some (.bool (EF b pl)):=by rw[AP rfl,AR Tryz.func116 BLN rfl (by simp[AC,AJ,AM,AF])];have hla:=hb.la;have hwl:IntKind.i64.wrap (b.last+1)=b.last+1:=AV (by omega) (by omega);obtain⟨fr,⟨e1,e2⟩,q⟩:=tO b hb pl hl pl.length 0 (by omega);have q:=fun n m=>q n (m+110) (by omega);rw[List.drop_zero]at q;unfold EF;generalize (pl.all fun l=>decide ((l.length:Int)=b.rows)&&E4 l 0)=z at q⊢;simp only[AC]at q⊢;cases z<;>(simp at q;simp[A9R,AG,q,e1,e2,hwl])
theorem tP(b:AK)(t:List Int)(hl:t.length=b.winds.length)(h100:t.length≤100)(h4:∀l∈b.winds,l.length≤100):∀(d k:Nat),k+d=t.length→∃fr,∀n m,d<m→BF (AE Tryz.prog ann kn (n+400) 29) bG (ann 29 (BW bG)) m ⟨1,[(1,true,li t),(2,true,.ptr 0 2 0 0),(5,true,i k)],⟨[],[(2,0,.box (AC b))]⟩⟩ =
  if A5 (t.drop k) (b.winds.drop k)=true then some (.exit 0,⟨1,fr,⟨[],[(2,0,.box (AC b))]⟩⟩) else some (.ret,⟨1,[(4,true,.bool false)],⟨[],[]⟩⟩)
 |0,k,hk=>by
  have:k=t.length:=by omega
  subst this;refine⟨?fr,fun n m hm=>?g3⟩;case g3=>
   obtain⟨m,rfl⟩:∃m',m=m'+1:=⟨m-1,by omega⟩
   have:b.winds.drop t.length=[]:=by rw[hl];exact List.drop_length
   rw[List.drop_length,this,AB]
   simp[A5,AC]
   rfl
 |d+1,k,hk=>by
  have hk':k<t.length:=by omega
  have hk2:k<b.winds.length:=by omega
  have hw:=BM (k:=k) (by omega);obtain⟨fr,ih⟩:=tP b t hl h100 h4 d (k+1) (by omega);have q:=fun n=>BO9 n b.winds[k] t[k] (h4 _ (List.getElem_mem hk2));rw[List.drop_eq_getElem_cons hk',List.drop_eq_getElem_cons hk2];simp only[A5];by_cases h:t[k]∈b.winds[k]
  ·simp only[h,decide_true,Bool.true_and]at q⊢;refine⟨fr,fun n m hm=>?_⟩;obtain⟨m,rfl⟩:∃m',m=m'+1:=⟨m-1,by omega⟩;have ih:=ih n m (by omega);rw[AB];simp only[AC]at ih⊢;simp at ih;simp[hk',hk2,hw,AJ,AM,q,C5,ih]
  ·simp only[h,decide_false,Bool.false_and]at q⊢;refine⟨[],fun n m hm=>?_⟩;obtain⟨m,rfl⟩:∃m',m=m'+1:=⟨m-1,by omega⟩;rw[AB];simp[AC,hk',hk2,hw,AJ,AM,C5,q]
theorem ALB(n:Nat)(b:AK)(hb:Valid b)(t:List Int):A0 Tryz.prog kn (AE Tryz.prog ann kn (n+600)) 27 [.agg (AC b),li t]=some (.bool (A5 t b.winds)):=by
 rw[AP rfl,AR Tryz.func27 b27 rfl (by simp[AC,AJ,AM,AF])];have hla:=hb.la;have hwi:=hb.wi;by_cases h:t.length=b.winds.length
 ·obtain⟨fr,q⟩:=tP b t h (by omega) (fun l hl=>by have:=hb.wl l hl;omega) t.length 0 (by omega);have q:=fun n m=>q n (m+110) (by omega);rw[List.drop_zero,List.drop_zero]at q;generalize A5 t b.winds=z at q⊢;simp only[AC]at q⊢;cases z<;>(simp at q;simp[c27,AG,h,q])
 ·rw[AE6 h];have h':¬(t.length:Int)=(b.winds.length:Int):=by omega
  simp[c27,AG,AC,h']
theorem ABT(b:AK)(t:List Int)(hn:∀x∈b.notes,0≤x.1∧x.1<t.length)(hl:b.notes.length≤100):∀(d k:Nat),k+d=b.notes.length→∃fr,∀n m,d<m→BF (AE Tryz.prog ann kn (n+400) 33) UW (ann 33 (BW UW)) m ⟨1,[(1,true,li t),(2,true,.ptr 0 2 0 0),(5,true,i k)],⟨[],[(2,0,.box (AC b))]⟩⟩ =
  if (b.notes.drop k).all (KW t)=true then some (.exit 0,⟨1,fr,⟨[],[(2,0,.box (AC b))]⟩⟩) else some (.ret,⟨1,[(4,true,.bool false)],⟨[],[]⟩⟩)
 |0,k,hk=>by
  have:k=b.notes.length:=by omega
  subst this;refine⟨?fr,fun n m hm=>?g3⟩;case g3=>
   obtain⟨m,rfl⟩:∃m',m=m'+1:=⟨m-1,by omega⟩
   rw[List.drop_length,AB]
   simp[AC]
   rfl
 |d+1,k,hk=>by
  have hk':k<b.notes.length:=by omega
  have hw:=BM (k:=k) (by omega);obtain⟨fr,ih⟩:=ABT b t hn hl d (k+1) (by omega);obtain⟨h0,h1⟩:=hn _ (List.getElem_mem hk');rw[List.drop_eq_getElem_cons hk'];have h1':b.notes[k].1.toNat<t.length:=by omega
  have ha:atI t b.notes[k].1=t[b.notes[k].1.toNat]:=by unfold atI;rw[List.getD_eq_getElem?_getD,List.getElem?_eq_getElem (by omega)];rfl
  have hr:KW t b.notes[k]=decide (t[b.notes[k].1.toNat]=b.notes[k].2):=by unfold KW;rw[ha]
  simp only[List.all_cons,hr];by_cases h2:t[b.notes[k].1.toNat]=b.notes[k].2
  ·simp only[h2,decide_true,Bool.true_and];refine⟨fr,fun n m hm=>?_⟩;obtain⟨m,rfl⟩:∃m',m=m'+1:=⟨m-1,by omega⟩;have ih:=ih n m (by omega);rw[AB];simp only[AC]at ih⊢;simp at ih;simp[hk',hw,AJ,AF,C5,h0,h1,h1',h2,ih]
  ·simp only[h2,decide_false,Bool.false_and];refine⟨[],fun n m hm=>?_⟩;obtain⟨m,rfl⟩:∃m',m=m'+1:=⟨m-1,by omega⟩;rw[AB];simp[AC,hk',hw,AJ,AF,C5,h0,h1,h1',h2]
theorem AQV(n:Nat)(b:AK)(hb:Valid b)(t:List Int):A0 Tryz.prog kn (AE Tryz.prog ann kn (n+800)) 102 [.agg (AC b),li t]=some (.bool (DA b t)):=by
 rw[AP rfl,AR Tryz.func102 BLP rfl (by simp[AC,AJ,AM,AF])];have q1:=fun n=>ALB n b hb t;have hno:=hb.no;unfold DA;by_cases h:A5 t b.winds=true
 ·rw[h]at q1;obtain⟨fr,q⟩:=ABT b t (Valid.notes' hb (CS h)) (by have:=hb.no;omega) b.notes.length 0 (by omega);have q:=fun n m=>q n (m+110) (by omega);rw[List.drop_zero]at q;rw[h];generalize b.notes.all (KW t)=z at q⊢;simp only[AC]at q q1⊢;cases z<;>(simp at q;simp[AWD,AG,AJ,AM,AF,q1,q])
 ·have h:A5 t b.winds=false:=by simpa using h
  rw[h]at q1;simp only[AC]at q1⊢;simp[AWD,AG,AJ,AM,AF,q1,h]
end Go.Proofs.Tryz.Op
namespace Go.Wind
def nF(b:AK)(s:Int×Int)(w:Int):Nat→Nat→Bool
 |0,_=>false
 |d+1,j=>(b.breaks.any fun k=>decide (k=D4 s w ((j:Int)+1)))||nF b s w d (j+1)
theorem ABU(b:AK)(s:Int×Int)(w:Int):∀(d j:Nat),nF b s w d j=(List.range d).any fun i=>b.breaks.any fun k=>decide (k=D4 s w (((j+i:Nat):Int)+1))
 |0,_=>rfl
 |d+1,j=>by rw[nF,ABU b s w d (j+1),List.range_succ_eq_map,List.any_cons,List.any_map];congr 1;congr 1;funext i;simp only[Function.comp];rw[show j+1+i=j+(i+1) by omega]
theorem BFS(b:AK)(s:Int×Int)(f w:Int):shR b s f w=(decide ((f+2) % 4=w)||nF b s w b.reach.toNat 0):=by unfold shR;rw[ABU];simp
end Go.Wind
namespace Go.Proofs.Tryz.Op
theorem ABV(L:AA)(k γ:Nat)(r:A6):AA.put L k γ r=(k,γ,r)::L:=rfl
theorem eqS(a1 a2 b1 b2:Int)(h1:LO a1)(h2:LO a2)(g1:LO b1)(g2:LO b2):S5 Tryz.prog 59 [i a1,i a2] [i b1,i b2]=some (decide (a1=b1)&&decide (a2=b2)):=by
 have kl:∀a b:Int,LO a→LO b→Program.keyLits Tryz.prog 16 59 [.int .i64 a,.int .i64 b]=some [.int .i64 a,.int .i64 b]:=fun a b ha hb=>by unfold Program.keyLits;simp[Tryz.underlying59,k3I (wfI ha),k3I (wfI hb)]
 have kt:(AH6 Tryz.prog 59&&Program.keyTypeAt Tryz.prog 16 59&&!(Tryz.prog.eqGuardType Tryz.prog.depth 59))=true:=by kernel_rfl
 unfold S5;simp[EL,kl _ _ h1 h2,kl _ _ g1 g2];refine⟨⟨by simpa using kt,by simp[DB]⟩,?_⟩;simp only[ML,Bool.and_true];congr 1
theorem tQ(b:AK)(hbr:∀k∈b.breaks,0≤k.1∧k.1≤100∧0≤k.2∧k.2≤100)(hl:b.breaks.length≤100)(x:Int×Int)(hx:-1000≤x.1∧x.1≤1000∧-1000≤x.2∧x.2≤1000)(w:Int)(j γ c:Nat):∀(d k:Nat),k+d=b.breaks.length→∀n m,d<m→BF (AE Tryz.prog ann kn (n+100) 63) UY (ann 63 (BW UY)) m ⟨c,[(3,true,i w),(4,true,.ptr 0 4 0 0),(9,true,.ptr 0 9 γ 0),(10,true,i j),(11,true,i k)],⟨[],[(4,0,.box (AC b)),(9,γ,.box (AF x))]⟩⟩ =
  if ((b.breaks.drop k).any fun q=>decide (q=x))=true then some (.ret,⟨c,[(8,true,.bool true)],⟨[],[]⟩⟩)
  else some (.exit 3,⟨c,[(53,true,.bool false),(52,true,i b.breaks.length),(51,true,.list false (b.breaks.map AF)),(50,true,.ptr 0 4 0 7),(49,true,i b.breaks.length),(3,true,i w),(4,true,.ptr 0 4 0 0),(9,true,.ptr 0 9 γ 0),(10,true,i j),(11,true,i b.breaks.length)],⟨[],[(4,0,.box (AC b)),(9,γ,.box (AF x))]⟩⟩)
 |0,k,hk,n,m+1,hm=>by
  have:k=b.breaks.length:=by omega
  subst this;rw[List.drop_length,AB];simp[AC,AF]
 |d+1,k,hk,n,m+1,hm=>by
  have hk':k<b.breaks.length:=by omega
  have hw:=BM (k:=k) (by omega);have ih:=tQ b hbr hl x hx w j γ c d (k+1) (by omega) n m (by omega);obtain⟨g1,g2,g3,g4⟩:=hbr _ (List.getElem_mem hk');obtain⟨x1,x2,x3,x4⟩:=hx;have he:=eqS b.breaks[k].1 b.breaks[k].2 x.1 x.2 ⟨by omega,by omega⟩ ⟨by omega,by omega⟩ ⟨by omega,by omega⟩ ⟨by omega,by omega⟩;rw[List.drop_eq_getElem_cons hk',List.any_cons];have hq:decide (b.breaks[k]=x)=(decide (b.breaks[k].1=x.1)&&decide (b.breaks[k].2=x.2)):=by rw[Bool.eq_iff_iff];simp[Prod.ext_iff]
  rw[←hq]at he;generalize decide (b.breaks[k]=x)=z at he⊢;rw[AB];simp only[AC,AF]at ih he⊢;cases z with
  |true=>simp[hk',hw,AF,C5,he]
  |false=>
   simp only[Bool.false_or]
   simp at ih
   simp[hk',hw,AF,C5,he,ih]
theorem AE0(s:Int×Int)(w:Int)(hw:0≤w∧w≤3)(j:Nat):D4 s w ((j:Int)+1)=if w=0 then((D4 s w j).1-1,(D4 s w j).2) else if w=1 then((D4 s w j).1,(D4 s w j).2+1) else if w=2 then((D4 s w j).1+1,(D4 s w j).2) else((D4 s w j).1,(D4 s w j).2-1):=by
 have:w=0∨w=1∨w=2∨w=3:=by omega
 unfold D4;rcases this with rfl|rfl|rfl|rfl<;>simp<;>omega
theorem ABW(s:Int×Int)(hs:0≤s.1∧s.1≤100∧0≤s.2∧s.2≤100)(w:Int)(j:Int)(hj:0≤j∧j≤100):-1000≤(D4 s w j).1∧(D4 s w j).1≤1000∧-1000≤(D4 s w j).2∧(D4 s w j).2≤1000:=by unfold D4;split<;>(try split)<;>(try split)<;>(try split)<;>(try simp only)<;>omega
theorem ABX(b:AK)(hb:Valid b)(hbr:∀k∈b.breaks,0≤k.1∧k.1≤100∧0≤k.2∧k.2≤100)(s:Int×Int)(hs:0≤s.1∧s.1≤100∧0≤s.2∧s.2≤100)(w:Int)(hw:0≤w∧w≤3)(γ c:Nat)(hγ:γ<c):∀(d j:Nat),j+d=b.reach.toNat→∃fr,∀n m,d<m→BF (AE Tryz.prog ann kn (n+300) 63) bH (ann 63 (BW bH)) m ⟨c,[(3,true,i w),(4,true,.ptr 0 4 0 0),(9,true,.ptr 0 9 γ 0),(10,true,i j)],⟨[],[(4,0,.box (AC b)),(9,γ,.box (AF (D4 s w j)))]⟩⟩ =
  if nF b s w d j=true then some (.ret,⟨c,[(8,true,.bool true)],⟨[],[]⟩⟩) else some (.exit 0,⟨c,fr,⟨[],[(4,0,.box (AC b)),(9,γ,.box (AF (D4 s w b.reach.toNat)))]⟩⟩)
 |0,j,hd=>by
  have hre:=hb.re;have h1:j=b.reach.toNat:=by omega
  have h2:b.reach=(j:Int):=by omega
  rw[←h1];refine⟨?fr,fun n m hm=>?g2⟩;case g2=>
   obtain⟨m,rfl⟩:∃m',m=m'+1:=⟨m-1,by omega⟩
   rw[AB]
   simp[AC,AF,h2,nF]
   rfl
 |d+1,j,hd=>by
  have hre:=hb.re;have hbk:=hb.br;have hj:(j:Int)<b.reach:=by omega
  have hw1:=BM (k:=j) (by omega);have x0:=ABW s hs w j (by omega);have x1:=ABW s hs w ((j:Int)+1) (by omega);have q:=tQ b hbr (by omega) (D4 s w ((j:Int)+1)) x1 w j γ c b.breaks.length 0 (by omega);have q:=fun n m=>q n (m+150) (by omega);rw[List.drop_zero]at q;obtain⟨fr,ih⟩:=ABX b hb hbr s hs w hw γ c hγ d (j+1) (by omega);have e:D4 s w ((j+1:Nat):Int)=D4 s w ((j:Int)+1):=by rw[Int.natCast_succ]
  rw[e]at ih;have hn:=AE0 s w hw j;refine⟨fr,fun n m hm=>?_⟩;obtain⟨m,rfl⟩:∃m',m=m'+1:=⟨m-1,by omega⟩;have ih:=ih n m (by omega);rw[show nF b s w (d+1) j=((b.breaks.any fun k=>decide (k=D4 s w ((j:Int)+1)))||nF b s w d (j+1)) from rfl];generalize D4 s w ((j:Int)+1)=X' at *;generalize D4 s w (j:Int)=X at *;generalize D4 s w (b.reach.toNat:Int)=X2 at *;generalize (b.breaks.any fun k=>decide (k=X'))=z at q⊢;have wa:IntKind.i64.wrap (X.1-1)=X.1-1:=AV (by omega) (by omega);have wb:IntKind.i64.wrap (X.1+1)=X.1+1:=AV (by omega) (by omega);have wc:IntKind.i64.wrap (X.2-1)=X.2-1:=AV (by omega) (by omega);have wd:IntKind.i64.wrap (X.2+1)=X.2+1:=AV (by omega) (by omega);have hw4:w=0∨w=1∨w=2∨w=3:=by omega
  rw[AB];simp only[AC]at q ih⊢;rcases hw4 with rfl|rfl|rfl|rfl<;>(simp at hn;subst hn;cases z<;>(simp[AF]at q ih;simp[hj,hw1,hγ,AF,ABV,wa,wb,wc,wd,q,ih]))
theorem A1A(n:Nat)(b:AK)(hb:Valid b)(s:Int×Int)(hs:0≤s.1∧s.1≤100∧0≤s.2∧s.2≤100)(f w:Int)(hf:0≤f∧f≤3)(hw:0≤w∧w≤3):A0 Tryz.prog kn (AE Tryz.prog ann kn (n+500)) 76 [.agg (AC b),.agg (AF s),i f,i w]=some (.bool (shR b s f w)):=by
 rw[AP rfl,AR Tryz.func76 b76 rfl (by simp[AC,AJ,AM,AF])];have hre:=hb.re;obtain⟨fr,q⟩:=ABX b hb (Valid.br' hb) s hs w hw 2 3 (by omega) b.reach.toNat 0 (by omega);have q:=fun n m=>q n (m+150) (by omega);have e0:D4 s w ((0:Nat):Int)=s:=by unfold D4;split<;>(try split)<;>(try split)<;>(try split)<;>simp
 rw[e0]at q;have hwf:IntKind.i64.wrap (f+2)=f+2:=AV (by omega) (by omega);have hm:(f+2).tmod 4=(f+2) % 4:=Int.tmod_eq_emod_of_nonneg (by omega);rw[BFS];generalize nF b s w b.reach.toNat 0=z at q⊢;generalize D4 s w (b.reach.toNat:Int)=X2 at q;simp only[AC]at q⊢;by_cases h:(f+2) % 4=w
 ·simp[c76,AG,hwf,hm,h]
 ·cases z<;>(simp[AF]at q;simp[c76,AG,AF,hwf,hm,h,q,ABV])
end Go.Proofs.Tryz.Op
namespace Go.Wind
def JX(b:AK)(p:List (List Int))(t:List Int)(r q h:Nat):JO:=HY (fun h=>shR b (r,q) (CP p h r) (t.getD h 0)) (MK b p r) h
def E3(b:AK)(p:List (List Int))(t:List Int)(r n:Nat):List JO:=(List.range n).map fun q=>JX b p t r q t.length
def O7(b:AK)(p:List (List Int))(t:List Int)(n:Nat):List (List JO):=(List.range n).map fun r=>E3 b p t r b.places.toNat
theorem tR(b:AK)(p:List (List Int))(t:List Int)(r n:Nat):E3 b p t r (n+1)=E3 b p t r n++[JX b p t r n t.length]:=by simp[E3,List.range_succ]
theorem AE1(b:AK)(p:List (List Int))(t:List Int)(n:Nat):O7 b p t (n+1)=O7 b p t n++[E3 b p t n b.places.toNat]:=by simp[O7,List.range_succ]
end Go.Wind
namespace Go.Proofs.Tryz.Op
theorem ALC(b:AK)(hb:Valid b)(p:List (List Int))(hp:FY b p)(t:List Int)(ht:A5 t b.winds=true)(r q:Nat)(hr:(r:Int)<b.rows)(hq:(q:Int)<b.places)(γ7 γ9 γ:Nat)(A B:List (List V)):∀(d h c:Nat),h+d=t.length→γ<c→∀n m,d<m→BF (AE Tryz.prog ann kn (n+800) 89) UZ (ann 89 (BW UZ)) m ⟨c,[(1,true,G5 p),(2,true,li t),(3,true,.ptr 0 3 0 0),(7,true,pv 87 γ7 A),(8,true,i r),(9,true,pv 83 γ9 B),(10,true,i q),(11,true,.ptr 0 11 γ 0),(12,true,i h)],⟨[],(3,0,.box (AC b))::(11,γ,.box (EV (JX b p t r q h)))::(pl 83 γ9 139 B++pl 87 γ7 137 A)⟩⟩ =
  some (.exit 4,⟨c,[(30,true,.bool false),(29,true,i t.length),(28,true,li t),(27,true,i t.length),(1,true,G5 p),(2,true,li t),(3,true,.ptr 0 3 0 0),(7,true,pv 87 γ7 A),(8,true,i r),(9,true,pv 83 γ9 B),(10,true,i q),(11,true,.ptr 0 11 γ 0),(12,true,i t.length)],⟨[],(3,0,.box (AC b))::(11,γ,.box (EV (JX b p t r q t.length)))::(pl 83 γ9 139 B++pl 87 γ7 137 A)⟩⟩)
 |0,h,c,hd,hγ,n,m+1,hm=>by
  have:h=t.length:=by omega
  rw[←this,AB];simp[AC,this,EV,LB,LC,LD,G7,G8,IH]
 |d+1,h,c,hd,hγ,n,m+1,hm=>by
  have hla:=hb.la;have hro:=hb.ro;have hpc:=hb.pl;have hlw:=CS ht;have hwi:=hb.wi;have hsu:=hb.su;have hpn:=hp.len;have hw:=BM (k:=h) (by omega);have hh:h<p.length:=by omega
  have ht':h<t.length:=by omega
  have hs':h<b.sun.length:=by omega
  have hpe:p.getD h []=p[h]:=by rw[List.getD_eq_getElem?_getD,List.getElem?_eq_getElem hh];rfl
  have hr2:r<p[h].length:=by have:=hp.row h hh;rw[hpe]at this;omega
  have hx:CP p h r=p[h][r]:=by unfold CP;rw[hpe,List.getD_eq_getElem?_getD,List.getElem?_eq_getElem hr2];rfl
  have htd:t.getD h 0=t[h]:=by rw[List.getD_eq_getElem?_getD,List.getElem?_eq_getElem ht'];rfl
  have hsd:b.sun.getD h 0=b.sun[h]:=by rw[List.getD_eq_getElem?_getD,List.getElem?_eq_getElem hs'];rfl
  have hdir:=hp.dir h r hh (by rw[hpe];exact hr2);have htdir:=SZ hb ht ht';rw[hx,DC]at hdir;rw[htd,DC]at htdir;have qs:=fun n=>A1A n b hb (r,q) (by simp only;omega) p[h][r] t[h] hdir htdir;have ih:=ALC b hb p hp t ht r q hr hq γ7 γ9 γ A B d (h+1) c (by omega) hγ n m (by omega);have b1:=ALP (fun h=>shR b (r,q) (CP p h r) (t.getD h 0)) (MK b p r) h;have hlit:MK b p r h=decide (p[h][r]=b.sun[h]):=by unfold MK;rw[hx,hsd]
  have hdue:JX b p t r q (h+1)=⟨(JX b p t r q h).sun+(if MK b p r h=true then 1 else 0),(JX b p t r q h).calm+(if shR b (r,q) p[h][r] t[h]=true then 1 else 0),(JX b p t r q h).good+(if (MK b p r h&&shR b (r,q) p[h][r] t[h])=true then 1 else 0)⟩:=by
   simp only[JX,HY,nQ];have g:∀(f:Nat→Bool),((nQ f h+if f h=true then 1 else 0:Nat):Int)=((nQ f h:Nat):Int)+(if f h=true then 1 else 0):=fun f=>by split<;>simp
   rw[g,g (fun h=>shR b (r,q) (CP p h r) (t.getD h 0)),g (fun h=>MK b p r h&&shR b (r,q) (CP p h r) (t.getD h 0)),hx,htd]
  change 0≤(JX b p t r q h).sun∧(JX b p t r q h).sun≤h∧0≤(JX b p t r q h).calm∧(JX b p t r q h).calm≤h∧0≤(JX b p t r q h).good∧(JX b p t r q h).good≤h at b1;have w1:IntKind.i64.wrap ((JX b p t r q h).sun+1)=(JX b p t r q h).sun+1:=AV (by omega) (by omega);have w2:IntKind.i64.wrap ((JX b p t r q h).calm+1)=(JX b p t r q h).calm+1:=AV (by omega) (by omega);have w3:IntKind.i64.wrap ((JX b p t r q h).good+1)=(JX b p t r q h).good+1:=AV (by omega) (by omega);rw[hdue,hlit]at ih;generalize JX b p t r q t.length=FF at ih⊢;generalize JX b p t r q h=D at *;generalize e1:decide (p[h][r]=b.sun[h])=z1 at ih;generalize shR b (r,q) p[h][r] t[h]=z2 at ih qs;rw[AB];simp only[AC,AF]at ih qs⊢;cases z1<;>cases z2<;>(simp[EV]at ih;simp[hw,hh,ht',hs',hr2,AM,AJ,AF,EV,e1,qs,w1,w2,w3,hγ,QO,C5,LB,LC,LD,G7,G8,IH,ih])
theorem BFT{k:Nat}{x:JO}(h:k≤10000):B9 Tryz.prog 139 k [EV x]=true:=by rw[CA (by simp[EV]) (by simp)];simp[maxLen,EV];omega
theorem A1B{k:Nat}{v:V}(h:k≤10000):B9 Tryz.prog 137 k [[v]]=true:=by rw[CA (by simp) (by simp)];simp[maxLen];omega
theorem AU0(b:AK)(hb:Valid b)(p:List (List Int))(hp:FY b p)(t:List Int)(ht:A5 t b.winds=true)(r:Nat)(hr:(r:Int)<b.rows)(γ7:Nat)(A:List (List V)):∀(d q c γ:Nat),q+d=b.places.toNat→∃c' γ',∀n m,d<m→BF (AE Tryz.prog ann kn (n+1000) 89) bI (ann 89 (BW bI)) m ⟨c,[(1,true,G5 p),(2,true,li t),(3,true,.ptr 0 3 0 0),(7,true,pv 87 γ7 A),(8,true,i r),(9,true,pv 83 γ ((E3 b p t r q).map EV)),(10,true,i q)],⟨[],(3,0,.box (AC b))::(pl 83 γ 139 ((E3 b p t r q).map EV)++pl 87 γ7 137 A)⟩⟩ =
  some (.exit 2,⟨c',[(24,true,.bool false),(23,true,i b.places),(22,true,.ptr 0 3 0 2),(21,true,i b.places),(1,true,G5 p),(2,true,li t),(3,true,.ptr 0 3 0 0),(7,true,pv 87 γ7 A),(8,true,i r),(9,true,pv 83 γ' ((E3 b p t r b.places.toNat).map EV)),(10,true,i b.places)],⟨[],(3,0,.box (AC b))::(pl 83 γ' 139 ((E3 b p t r b.places.toNat).map EV)++pl 87 γ7 137 A)⟩⟩)
 |0,q,c,γ,hd=>by
  have hpc:=hb.pl;have h1:q=b.places.toNat:=by omega
  have h2:b.places=(q:Int):=by omega
  rw[←h1];refine⟨c,γ,fun n m hm=>?_⟩;obtain⟨m,rfl⟩:∃m',m=m'+1:=⟨m-1,by omega⟩;rw[AB];simp[AC,h2,LB,LC,LD,G7,G8,IH]
 |d+1,q,c,γ,hd=>by
  have hpc:=hb.pl;have hla:=hb.la;have hlw:=CS ht;have hwi:=hb.wi;have hq:(q:Int)<b.places:=by omega
  have hw:=BM (k:=q) (by omega);have qq:=ALC b hb p hp t ht r q hr hq γ7 γ c A ((E3 b p t r q).map EV) t.length 0 (c+1) (by omega) (by omega);have qq:=fun n m=>qq n (m+100) (by omega);have h0:JX b p t r q 0=⟨0,0,0⟩:=rfl;rw[h0]at qq;obtain⟨c',γ',ih⟩:=AU0 b hb p hp t ht r hr γ7 A d (q+1) (c+2) (c+1) (by omega);rw[tR]at ih;have happ:=BFT (k:=(E3 b p t r q).length) (x:=JX b p t r q t.length) (by simp[E3];omega);refine⟨c',γ',fun n m hm=>?_⟩;obtain⟨m,rfl⟩:∃m',m=m'+1:=⟨m-1,by omega⟩;have ih:=ih n m (by omega);generalize JX b p t r q t.length=Y at *;generalize E3 b p t r b.places.toNat=RR at *;generalize E3 b p t r q=R at *;rw[AB];simp only[AC]at qq ih⊢;simp[EV]at qq ih happ;simp[hq,hw,EV,qq,happ,QO,LB,LC,LD,G7,G8,IH,ABK,AKJ,ih]
theorem AU1(b:AK)(hb:Valid b)(p:List (List Int))(hp:FY b p)(t:List Int)(ht:A5 t b.winds=true):∀(d r c γ:Nat),r+d=b.rows.toNat→∃fr c' γ',BE fr 7=some (true,pv 87 γ' ((O7 b p t b.rows.toNat).map FN))∧∀n m,d<m→BF (AE Tryz.prog ann kn (n+1200) 89) bJ (ann 89 (BW bJ)) m ⟨c,[(1,true,G5 p),(2,true,li t),(3,true,.ptr 0 3 0 0),(7,true,pv 87 γ ((O7 b p t r).map FN)),(8,true,i r)],⟨[],(3,0,.box (AC b))::pl 87 γ 137 ((O7 b p t r).map FN)⟩⟩ =
  some (.exit 0,⟨c',fr,⟨[],(3,0,.box (AC b))::pl 87 γ' 137 ((O7 b p t b.rows.toNat).map FN)⟩⟩)
 |0,r,c,γ,hd=>by
  have hro:=hb.ro;have h1:r=b.rows.toNat:=by omega
  have h2:b.rows=(r:Int):=by omega
  rw[←h1];refine⟨?fr,c,γ,?g1,fun n m hm=>?g2⟩;case g2=>
   obtain⟨m,rfl⟩:∃m',m=m'+1:=⟨m-1,by omega⟩
   rw[AB]
   simp[AC,h2]
   rfl
  case g1=>simp
 |d+1,r,c,γ,hd=>by
  have hro:=hb.ro;have hpc:=hb.pl;have hr:(r:Int)<b.rows:=by omega
  have hw:=BM (k:=r) (by omega);obtain⟨c1,γ1,q⟩:=AU0 b hb p hp t ht r hr γ ((O7 b p t r).map FN) b.places.toNat 0 c 0 (by omega);have q:=fun n m=>q n (m+100) (by omega);have h0:E3 b p t r 0=[]:=rfl;rw[h0]at q;obtain⟨fr,c',γ',e1,ih⟩:=AU1 b hb p hp t ht d (r+1) (c1+1) c1 (by omega);rw[AE1]at ih;have happ:=A1B (k:=(O7 b p t r).length) (v:=.list false ((E3 b p t r b.places.toNat).map EV)) (by simp[O7];omega);have hne:E3 b p t r b.places.toNat≠[]:=by intro e;have:=congrArg List.length e;simp[E3]at this;omega
  have hsl:sl ((E3 b p t r b.places.toNat).map EV)=.list false ((E3 b p t r b.places.toNat).map EV):=by obtain⟨x,L,e⟩:=List.exists_cons_of_ne_nil hne;rw[e];rfl
  refine⟨fr,c',γ',e1,fun n m hm=>?_⟩;obtain⟨m,rfl⟩:∃m',m=m'+1:=⟨m-1,by omega⟩;have ih:=ih n m (by omega);generalize O7 b p t b.rows.toNat=FF at ih⊢;generalize E3 b p t r b.places.toNat=RR at ih q happ hsl;have htl:∀o,FL 0 83 o (pl 87 γ 137 ((O7 b p t r).map FN))=pl 87 γ 137 ((O7 b p t r).map FN):=fun o=>XX (by decide) _ _ _ (by simp[FN,EV]);rw[AB];simp only[AC]at ih q⊢;simp[FN]at ih q happ;simp[hr,hw,FN,q,ih,happ,htl,hsl,LB,LC,LD,G7,G8,IH]
theorem ALD(n:Nat)(b:AK)(hb:Valid b)(p:List (List Int))(hp:FY b p)(t:List Int)(ht:A5 t b.winds=true):A0 Tryz.prog kn (AE Tryz.prog ann kn (n+1400)) 28 [.agg (AC b),G5 p,li t]=some (sl ((O7 b p t b.rows.toNat).map FN)):=by rw[AP rfl,AR Tryz.func28 b28 rfl (by simp[AC,AJ,AM,AF])];have hro:=hb.ro;obtain⟨fr,c',γ',e1,q⟩:=AU1 b hb p hp t ht b.rows.toNat 0 1 0 (by omega);have q:=fun n m=>q n (m+100) (by omega);have h0:O7 b p t 0=[]:=rfl;rw[h0]at q;generalize O7 b p t b.rows.toNat=FF at *;simp only[AC]at q⊢;simp at q;simp[c28,AG,q,e1];simp[FN,EV]
theorem AQW{b:AK}(hb:Valid b){p:List (List Int)}(hp:FY b p){t:List Int}(ht:A5 t b.winds=true):O7 b p t b.rows.toNat=MI b p t b.rows.toNat:=by unfold O7 MI;apply List.map_congr_left;intro r hr;have hr:=List.mem_range.1 hr;unfold E3 fN;apply List.map_congr_left;intro q _;exact(AH2 hb hp ht (by omega) q).symm
end Go.Proofs.Tryz.Op
