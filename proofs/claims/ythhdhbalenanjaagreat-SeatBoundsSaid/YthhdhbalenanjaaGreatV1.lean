/- Contracts of the reference: IsPlan, IsListed, IsTruth. No condition but a valid beach. -/
import Derived.Test.YthhdhbalenanjaaGreatW3
import Derived.Test.YthhdhbalenanjaaGreatFz
import Derived.Test.YthhdhbalenanjaaGreatW4
set_option maxRecDepth 100000
set_option linter.unusedSimpArgs false
open Go Go.Pg Go.Proofs Go.Wind
namespace Go.Proofs.Tryz.Op
theorem nT(b:AJ)(hb:Valid b)(pl:List (List Int))(hl:pl.length≤100):∀(d k:Nat),k+d=pl.length→∃fr,(BZ fr 1=some (true,GN pl)∧BZ fr 2=some (true,.ptr 0 2 0 0))∧∀n m,d<m→BC (AE Tryz.prog ann kn (n+400) 34) SZ (ann 34 (BR SZ)) m ⟨1,[(1,true,GN pl),(2,true,.ptr 0 2 0 0),(5,true,i k)],⟨[],[(2,0,.box (AB b))]⟩⟩ =
  if (pl.drop k).all (fun l=>decide ((l.length:Int)=b.rows)&&EH l 0)=true then some (.exit 0,⟨1,fr,⟨[],[(2,0,.box (AB b))]⟩⟩) else some (.ret,⟨1,[(4,true,.bool false)],⟨[],[]⟩⟩)
 |0,k,hk=>by
  have:k=pl.length:=by omega
  subst this;refine⟨?fr,?g1,fun n m hm=>?g3⟩;case g3=>
   obtain⟨m,rfl⟩:∃m',m=m'+1:=⟨m-1,by omega⟩
   rw[List.drop_length,AC]
   simp[AB]
   rfl
  case g1=>simp
 |d+1,k,hk=>by
  have hk':k<pl.length:=by omega
  have hw:=BH (k:=k) (by omega);have hro:=hb.ro;obtain⟨fr,e1,ih⟩:=nT b hb pl hl d (k+1) (by omega);rw[List.drop_eq_getElem_cons hk',List.all_cons];by_cases h:(pl[k].length:Int)=b.rows
  ·have q:=fun n=>vU n pl[k] 0 (by omega);cases hz:EH pl[k] 0 with
   |true=>
    rw[hz]at q
    simp only[h,decide_true,Bool.true_and]
    refine⟨fr,e1,fun n m hm=>?_⟩
    obtain⟨m,rfl⟩:∃m',m=m'+1:=⟨m-1,by omega⟩
    have ih:=ih n m (by omega)
    rw[AC]
    simp only[AB]at ih⊢
    simp at ih
    simp[hk',hw,AH,AM,h,q,ET,ih]
   |false=>
    rw[hz]at q
    simp only[h,decide_true,Bool.true_and,Bool.false_and]
    refine⟨fr,e1,fun n m hm=>?_⟩
    obtain⟨m,rfl⟩:∃m',m=m'+1:=⟨m-1,by omega⟩
    rw[AC]
    simp[AB,hk',hw,AH,AM,h,q,ET]
  ·simp only[h,decide_false,Bool.false_and];refine⟨fr,e1,fun n m hm=>?_⟩;obtain⟨m,rfl⟩:∃m',m=m'+1:=⟨m-1,by omega⟩;rw[AC];simp[AB,hk',hw,AH,AM,h,ET]
theorem AFT(n:Nat)(b:AJ)(hb:Valid b)(pl:List (List Int))(hl:pl.length≤100):AW Tryz.prog kn (AE Tryz.prog ann kn (n+600)) 116 [.agg (AB b),GN pl]=some (.bool (DJ b pl)):=by rw[AQ rfl,AP Tryz.func116 BEB rfl (by simp[AB,AH,AM,AG])];have hla:=hb.la;have hwl:IntKind.i64.wrap (b.last+1)=b.last+1:=AV (by omega) (by omega);obtain⟨fr,⟨e1,e2⟩,q⟩:=nT b hb pl hl pl.length 0 (by omega);have q:=fun n m=>q n (m+110) (by omega);rw[List.drop_zero]at q;unfold DJ;generalize (pl.all fun l=>decide ((l.length:Int)=b.rows)&&EH l 0)=z at q⊢;simp only[AB]at q⊢;cases z<;>(simp at q;simp[A2L,AF,q,e1,e2,hwl])
theorem nU(b:AJ)(t:List Int)(hl:t.length=b.winds.length)(h100:t.length≤100)(h4:∀l∈b.winds,l.length≤100):∀(d k:Nat),k+d=t.length→∃fr,∀n m,d<m→BC (AE Tryz.prog ann kn (n+400) 29) YE (ann 29 (BR YE)) m ⟨1,[(1,true,li t),(2,true,.ptr 0 2 0 0),(5,true,i k)],⟨[],[(2,0,.box (AB b))]⟩⟩ =
  if AU (t.drop k) (b.winds.drop k)=true then some (.exit 0,⟨1,fr,⟨[],[(2,0,.box (AB b))]⟩⟩) else some (.ret,⟨1,[(4,true,.bool false)],⟨[],[]⟩⟩)
 |0,k,hk=>by
  have:k=t.length:=by omega
  subst this;refine⟨?fr,fun n m hm=>?g3⟩;case g3=>
   obtain⟨m,rfl⟩:∃m',m=m'+1:=⟨m-1,by omega⟩
   have:b.winds.drop t.length=[]:=by rw[hl];exact List.drop_length
   rw[List.drop_length,this,AC]
   simp[AU,AB]
   rfl
 |d+1,k,hk=>by
  have hk':k<t.length:=by omega
  have hk2:k<b.winds.length:=by omega
  have hw:=BH (k:=k) (by omega);obtain⟨fr,ih⟩:=nU b t hl h100 h4 d (k+1) (by omega);have q:=fun n=>BHQ n b.winds[k] t[k] (h4 _ (List.getElem_mem hk2));rw[List.drop_eq_getElem_cons hk',List.drop_eq_getElem_cons hk2];simp only[AU];by_cases h:t[k]∈b.winds[k]
  ·simp only[h,decide_true,Bool.true_and]at q⊢;refine⟨fr,fun n m hm=>?_⟩;obtain⟨m,rfl⟩:∃m',m=m'+1:=⟨m-1,by omega⟩;have ih:=ih n m (by omega);rw[AC];simp only[AB]at ih⊢;simp at ih;simp[hk',hk2,hw,AH,AM,q,ET,ih]
  ·simp only[h,decide_false,Bool.false_and]at q⊢;refine⟨[],fun n m hm=>?_⟩;obtain⟨m,rfl⟩:∃m',m=m'+1:=⟨m-1,by omega⟩;rw[AC];simp[AB,hk',hk2,hw,AH,AM,ET,q]
theorem AFU(n:Nat)(b:AJ)(hb:Valid b)(t:List Int):AW Tryz.prog kn (AE Tryz.prog ann kn (n+600)) 27 [.agg (AB b),li t]=some (.bool (AU t b.winds)):=by
 rw[AQ rfl,AP Tryz.func27 b27 rfl (by simp[AB,AH,AM,AG])];have hla:=hb.la;have hwi:=hb.wi;by_cases h:t.length=b.winds.length
 ·obtain⟨fr,q⟩:=nU b t h (by omega) (fun l hl=>by have:=hb.wl l hl;omega) t.length 0 (by omega);have q:=fun n m=>q n (m+110) (by omega);rw[List.drop_zero,List.drop_zero]at q;generalize AU t b.winds=z at q⊢;simp only[AB]at q⊢;cases z<;>(simp at q;simp[c27,AF,h,q])
 ·rw[eX h];have h':¬(t.length:Int)=(b.winds.length:Int):=by omega
  simp[c27,AF,AB,h']
theorem vP(b:AJ)(t:List Int)(hn:∀x∈b.notes,0≤x.1∧x.1<t.length)(hl:b.notes.length≤100):∀(d k:Nat),k+d=b.notes.length→∃fr,∀n m,d<m→BC (AE Tryz.prog ann kn (n+400) 33) S0 (ann 33 (BR S0)) m ⟨1,[(1,true,li t),(2,true,.ptr 0 2 0 0),(5,true,i k)],⟨[],[(2,0,.box (AB b))]⟩⟩ =
  if (b.notes.drop k).all (K3 t)=true then some (.exit 0,⟨1,fr,⟨[],[(2,0,.box (AB b))]⟩⟩) else some (.ret,⟨1,[(4,true,.bool false)],⟨[],[]⟩⟩)
 |0,k,hk=>by
  have:k=b.notes.length:=by omega
  subst this;refine⟨?fr,fun n m hm=>?g3⟩;case g3=>
   obtain⟨m,rfl⟩:∃m',m=m'+1:=⟨m-1,by omega⟩
   rw[List.drop_length,AC]
   simp[AB]
   rfl
 |d+1,k,hk=>by
  have hk':k<b.notes.length:=by omega
  have hw:=BH (k:=k) (by omega);obtain⟨fr,ih⟩:=vP b t hn hl d (k+1) (by omega);obtain⟨h0,h1⟩:=hn _ (List.getElem_mem hk');rw[List.drop_eq_getElem_cons hk'];have h1':b.notes[k].1.toNat<t.length:=by omega
  have ha:atI t b.notes[k].1=t[b.notes[k].1.toNat]:=by unfold atI;rw[List.getD_eq_getElem?_getD,List.getElem?_eq_getElem (by omega)];rfl
  have hr:K3 t b.notes[k]=decide (t[b.notes[k].1.toNat]=b.notes[k].2):=by unfold K3;rw[ha]
  simp only[List.all_cons,hr];by_cases h2:t[b.notes[k].1.toNat]=b.notes[k].2
  ·simp only[h2,decide_true,Bool.true_and];refine⟨fr,fun n m hm=>?_⟩;obtain⟨m,rfl⟩:∃m',m=m'+1:=⟨m-1,by omega⟩;have ih:=ih n m (by omega);rw[AC];simp only[AB]at ih⊢;simp at ih;simp[hk',hw,AH,AG,ET,h0,h1,h1',h2,ih]
  ·simp only[h2,decide_false,Bool.false_and];refine⟨[],fun n m hm=>?_⟩;obtain⟨m,rfl⟩:∃m',m=m'+1:=⟨m-1,by omega⟩;rw[AC];simp[AB,hk',hw,AH,AG,ET,h0,h1,h1',h2]
theorem AK8(n:Nat)(b:AJ)(hb:Valid b)(t:List Int):AW Tryz.prog kn (AE Tryz.prog ann kn (n+800)) 102 [.agg (AB b),li t]=some (.bool (CS b t)):=by
 rw[AQ rfl,AP Tryz.func102 BED rfl (by simp[AB,AH,AM,AG])];have q1:=fun n=>AFU n b hb t;have hno:=hb.no;unfold CS;by_cases h:AU t b.winds=true
 ·rw[h]at q1;obtain⟨fr,q⟩:=vP b t (Valid.notes' hb (BU h)) (by have:=hb.no;omega) b.notes.length 0 (by omega);have q:=fun n m=>q n (m+110) (by omega);rw[List.drop_zero]at q;rw[h];generalize b.notes.all (K3 t)=z at q⊢;simp only[AB]at q q1⊢;cases z<;>(simp at q;simp[AP2,AF,AH,AM,AG,q1,q])
 ·have h:AU t b.winds=false:=by simpa using h
  rw[h]at q1;simp only[AB]at q1⊢;simp[AP2,AF,AH,AM,AG,q1,h]
end Go.Proofs.Tryz.Op
namespace Go.Wind
def iI(b:AJ)(s:Int×Int)(w:Int):Nat→Nat→Bool
 |0,_=>false
 |d+1,j=>(b.breaks.any fun k=>decide (k=DG s w ((j:Int)+1)))||iI b s w d (j+1)
theorem vQ(b:AJ)(s:Int×Int)(w:Int):∀(d j:Nat),iI b s w d j=(List.range d).any fun i=>b.breaks.any fun k=>decide (k=DG s w (((j+i:Nat):Int)+1))
 |0,_=>rfl
 |d+1,j=>by rw[iI,vQ b s w d (j+1),List.range_succ_eq_map,List.any_cons,List.any_map];congr 1;congr 1;funext i;simp only[Function.comp];rw[show j+1+i=j+(i+1) by omega]
theorem A8K(b:AJ)(s:Int×Int)(f w:Int):tQ b s f w=(decide ((f+2) % 4=w)||iI b s w b.reach.toNat 0):=by unfold tQ;rw[vQ];simp
end Go.Wind
namespace Go.Proofs.Tryz.Op
theorem vR(L:AA)(k γ:Nat)(r:AZ):AA.put L k γ r=(k,γ,r)::L:=rfl
theorem eqS(a1 a2 b1 b2:Int)(h1:K8 a1)(h2:K8 a2)(g1:K8 b1)(g2:K8 b2):OH Tryz.prog 59 [i a1,i a2] [i b1,i b2]=some (decide (a1=b1)&&decide (a2=b2)):=by
 have kl:∀a b:Int,K8 a→K8 b→Program.keyLits Tryz.prog 16 59 [.int .i64 a,.int .i64 b]=some [.int .i64 a,.int .i64 b]:=fun a b ha hb=>by unfold Program.keyLits;simp[Tryz.underlying59,k3I (wfI ha),k3I (wfI hb)]
 have kt:(wV Tryz.prog 59&&Program.keyTypeAt Tryz.prog 16 59&&!(Tryz.prog.eqGuardType Tryz.prog.depth 59))=true:=by kernel_rfl
 unfold OH;simp[D2,kl _ _ h1 h2,kl _ _ g1 g2];refine⟨⟨by simpa using kt,by simp[CT]⟩,?_⟩;simp only[JW,Bool.and_true];congr 1
theorem nV(b:AJ)(hbr:∀k∈b.breaks,0≤k.1∧k.1≤100∧0≤k.2∧k.2≤100)(hl:b.breaks.length≤100)(x:Int×Int)(hx:-1000≤x.1∧x.1≤1000∧-1000≤x.2∧x.2≤1000)(w:Int)(j γ c:Nat):∀(d k:Nat),k+d=b.breaks.length→∀n m,d<m→BC (AE Tryz.prog ann kn (n+100) 63) S1 (ann 63 (BR S1)) m ⟨c,[(3,true,i w),(4,true,.ptr 0 4 0 0),(9,true,.ptr 0 9 γ 0),(10,true,i j),(11,true,i k)],⟨[],[(4,0,.box (AB b)),(9,γ,.box (AG x))]⟩⟩ =
  if ((b.breaks.drop k).any fun q=>decide (q=x))=true then some (.ret,⟨c,[(8,true,.bool true)],⟨[],[]⟩⟩)
  else some (.exit 3,⟨c,[(53,true,.bool false),(52,true,i b.breaks.length),(51,true,.list false (b.breaks.map AG)),(50,true,.ptr 0 4 0 7),(49,true,i b.breaks.length),(3,true,i w),(4,true,.ptr 0 4 0 0),(9,true,.ptr 0 9 γ 0),(10,true,i j),(11,true,i b.breaks.length)],⟨[],[(4,0,.box (AB b)),(9,γ,.box (AG x))]⟩⟩)
 |0,k,hk,n,m+1,hm=>by
  have:k=b.breaks.length:=by omega
  subst this;rw[List.drop_length,AC];simp[AB,AG]
 |d+1,k,hk,n,m+1,hm=>by
  have hk':k<b.breaks.length:=by omega
  have hw:=BH (k:=k) (by omega);have ih:=nV b hbr hl x hx w j γ c d (k+1) (by omega) n m (by omega);obtain⟨g1,g2,g3,g4⟩:=hbr _ (List.getElem_mem hk');obtain⟨x1,x2,x3,x4⟩:=hx;have he:=eqS b.breaks[k].1 b.breaks[k].2 x.1 x.2 ⟨by omega,by omega⟩ ⟨by omega,by omega⟩ ⟨by omega,by omega⟩ ⟨by omega,by omega⟩;rw[List.drop_eq_getElem_cons hk',List.any_cons];have hq:decide (b.breaks[k]=x)=(decide (b.breaks[k].1=x.1)&&decide (b.breaks[k].2=x.2)):=by rw[Bool.eq_iff_iff];simp[Prod.ext_iff]
  rw[←hq]at he;generalize decide (b.breaks[k]=x)=z at he⊢;rw[AC];simp only[AB,AG]at ih he⊢;cases z with
  |true=>simp[hk',hw,AG,ET,he]
  |false=>
   simp only[Bool.false_or]
   simp at ih
   simp[hk',hw,AG,ET,he,ih]
theorem zN(s:Int×Int)(w:Int)(hw:0≤w∧w≤3)(j:Nat):DG s w ((j:Int)+1)=if w=0 then((DG s w j).1-1,(DG s w j).2) else if w=1 then((DG s w j).1,(DG s w j).2+1) else if w=2 then((DG s w j).1+1,(DG s w j).2) else((DG s w j).1,(DG s w j).2-1):=by
 have:w=0∨w=1∨w=2∨w=3:=by omega
 unfold DG;rcases this with rfl|rfl|rfl|rfl<;>simp<;>omega
theorem vS(s:Int×Int)(hs:0≤s.1∧s.1≤100∧0≤s.2∧s.2≤100)(w:Int)(j:Int)(hj:0≤j∧j≤100):-1000≤(DG s w j).1∧(DG s w j).1≤1000∧-1000≤(DG s w j).2∧(DG s w j).2≤1000:=by unfold DG;split<;>(try split)<;>(try split)<;>(try split)<;>(try simp only)<;>omega
theorem vT(b:AJ)(hb:Valid b)(hbr:∀k∈b.breaks,0≤k.1∧k.1≤100∧0≤k.2∧k.2≤100)(s:Int×Int)(hs:0≤s.1∧s.1≤100∧0≤s.2∧s.2≤100)(w:Int)(hw:0≤w∧w≤3)(γ c:Nat)(hγ:γ<c):∀(d j:Nat),j+d=b.reach.toNat→∃fr,∀n m,d<m→BC (AE Tryz.prog ann kn (n+300) 63) YF (ann 63 (BR YF)) m ⟨c,[(3,true,i w),(4,true,.ptr 0 4 0 0),(9,true,.ptr 0 9 γ 0),(10,true,i j)],⟨[],[(4,0,.box (AB b)),(9,γ,.box (AG (DG s w j)))]⟩⟩ =
  if iI b s w d j=true then some (.ret,⟨c,[(8,true,.bool true)],⟨[],[]⟩⟩) else some (.exit 0,⟨c,fr,⟨[],[(4,0,.box (AB b)),(9,γ,.box (AG (DG s w b.reach.toNat)))]⟩⟩)
 |0,j,hd=>by
  have hre:=hb.re;have h1:j=b.reach.toNat:=by omega
  have h2:b.reach=(j:Int):=by omega
  rw[←h1];refine⟨?fr,fun n m hm=>?g2⟩;case g2=>
   obtain⟨m,rfl⟩:∃m',m=m'+1:=⟨m-1,by omega⟩
   rw[AC]
   simp[AB,AG,h2,iI]
   rfl
 |d+1,j,hd=>by
  have hre:=hb.re;have hbk:=hb.br;have hj:(j:Int)<b.reach:=by omega
  have hw1:=BH (k:=j) (by omega);have x0:=vS s hs w j (by omega);have x1:=vS s hs w ((j:Int)+1) (by omega);have q:=nV b hbr (by omega) (DG s w ((j:Int)+1)) x1 w j γ c b.breaks.length 0 (by omega);have q:=fun n m=>q n (m+150) (by omega);rw[List.drop_zero]at q;obtain⟨fr,ih⟩:=vT b hb hbr s hs w hw γ c hγ d (j+1) (by omega);have e:DG s w ((j+1:Nat):Int)=DG s w ((j:Int)+1):=by rw[Int.natCast_succ]
  rw[e]at ih;have hn:=zN s w hw j;refine⟨fr,fun n m hm=>?_⟩;obtain⟨m,rfl⟩:∃m',m=m'+1:=⟨m-1,by omega⟩;have ih:=ih n m (by omega);rw[show iI b s w (d+1) j=((b.breaks.any fun k=>decide (k=DG s w ((j:Int)+1)))||iI b s w d (j+1)) from rfl];generalize DG s w ((j:Int)+1)=X' at *;generalize DG s w (j:Int)=X at *;generalize DG s w (b.reach.toNat:Int)=X2 at *;generalize (b.breaks.any fun k=>decide (k=X'))=z at q⊢;have wa:IntKind.i64.wrap (X.1-1)=X.1-1:=AV (by omega) (by omega);have wb:IntKind.i64.wrap (X.1+1)=X.1+1:=AV (by omega) (by omega);have wc:IntKind.i64.wrap (X.2-1)=X.2-1:=AV (by omega) (by omega);have wd:IntKind.i64.wrap (X.2+1)=X.2+1:=AV (by omega) (by omega);have hw4:w=0∨w=1∨w=2∨w=3:=by omega
  rw[AC];simp only[AB]at q ih⊢;rcases hw4 with rfl|rfl|rfl|rfl<;>(simp at hn;subst hn;cases z<;>(simp[AG]at q ih;simp[hj,hw1,hγ,AG,vR,wa,wb,wc,wd,q,ih]))
theorem AUN(n:Nat)(b:AJ)(hb:Valid b)(s:Int×Int)(hs:0≤s.1∧s.1≤100∧0≤s.2∧s.2≤100)(f w:Int)(hf:0≤f∧f≤3)(hw:0≤w∧w≤3):AW Tryz.prog kn (AE Tryz.prog ann kn (n+500)) 76 [.agg (AB b),.agg (AG s),i f,i w]=some (.bool (tQ b s f w)):=by
 rw[AQ rfl,AP Tryz.func76 b76 rfl (by simp[AB,AH,AM,AG])];have hre:=hb.re;obtain⟨fr,q⟩:=vT b hb (Valid.br' hb) s hs w hw 2 3 (by omega) b.reach.toNat 0 (by omega);have q:=fun n m=>q n (m+150) (by omega);have e0:DG s w ((0:Nat):Int)=s:=by unfold DG;split<;>(try split)<;>(try split)<;>(try split)<;>simp
 rw[e0]at q;have hwf:IntKind.i64.wrap (f+2)=f+2:=AV (by omega) (by omega);have hm:(f+2).tmod 4=(f+2) % 4:=Int.tmod_eq_emod_of_nonneg (by omega);rw[A8K];generalize iI b s w b.reach.toNat 0=z at q⊢;generalize DG s w (b.reach.toNat:Int)=X2 at q;simp only[AB]at q⊢;by_cases h:(f+2) % 4=w
 ·simp[c76,AF,hwf,hm,h]
 ·cases z<;>(simp[AG]at q;simp[c76,AF,AG,hwf,hm,h,q,vR])
end Go.Proofs.Tryz.Op
namespace Go.Wind
def I0(b:AJ)(p:List (List Int))(t:List Int)(r q h:Nat):EI:=FK (fun h=>tQ b (r,q) (B7 p h r) (t.getD h 0)) (IL b p r) h
def EF(b:AJ)(p:List (List Int))(t:List Int)(r n:Nat):List EI:=(List.range n).map fun q=>I0 b p t r q t.length
def NM(b:AJ)(p:List (List Int))(t:List Int)(n:Nat):List (List EI):=(List.range n).map fun r=>EF b p t r b.places.toNat
theorem nW(b:AJ)(p:List (List Int))(t:List Int)(r n:Nat):EF b p t r (n+1)=EF b p t r n++[I0 b p t r n t.length]:=by simp[EF,List.range_succ]
theorem zO(b:AJ)(p:List (List Int))(t:List Int)(n:Nat):NM b p t (n+1)=NM b p t n++[EF b p t n b.places.toNat]:=by simp[NM,List.range_succ]
end Go.Wind
namespace Go.Proofs.Tryz.Op
theorem AFV(b:AJ)(hb:Valid b)(p:List (List Int))(hp:FD b p)(t:List Int)(ht:AU t b.winds=true)(r q:Nat)(hr:(r:Int)<b.rows)(hq:(q:Int)<b.places)(γ7 γ9 γ:Nat)(A B:List (List V)):∀(d h c:Nat),h+d=t.length→γ<c→∀n m,d<m→BC (AE Tryz.prog ann kn (n+800) 89) S2 (ann 89 (BR S2)) m ⟨c,[(1,true,GN p),(2,true,li t),(3,true,.ptr 0 3 0 0),(7,true,pv 87 γ7 A),(8,true,i r),(9,true,pv 83 γ9 B),(10,true,i q),(11,true,.ptr 0 11 γ 0),(12,true,i h)],⟨[],(3,0,.box (AB b))::(11,γ,.box (BI (I0 b p t r q h)))::(pl 83 γ9 139 B++pl 87 γ7 137 A)⟩⟩ =
  some (.exit 4,⟨c,[(30,true,.bool false),(29,true,i t.length),(28,true,li t),(27,true,i t.length),(1,true,GN p),(2,true,li t),(3,true,.ptr 0 3 0 0),(7,true,pv 87 γ7 A),(8,true,i r),(9,true,pv 83 γ9 B),(10,true,i q),(11,true,.ptr 0 11 γ 0),(12,true,i t.length)],⟨[],(3,0,.box (AB b))::(11,γ,.box (BI (I0 b p t r q t.length)))::(pl 83 γ9 139 B++pl 87 γ7 137 A)⟩⟩)
 |0,h,c,hd,hγ,n,m+1,hm=>by
  have:h=t.length:=by omega
  rw[←this,AC];simp[AB,this,BI,O6,O7,O8,JG,JH,K1]
 |d+1,h,c,hd,hγ,n,m+1,hm=>by
  have hla:=hb.la;have hro:=hb.ro;have hpc:=hb.pl;have hlw:=BU ht;have hwi:=hb.wi;have hsu:=hb.su;have hpn:=hp.len;have hw:=BH (k:=h) (by omega);have hh:h<p.length:=by omega
  have ht':h<t.length:=by omega
  have hs':h<b.sun.length:=by omega
  have hpe:p.getD h []=p[h]:=by rw[List.getD_eq_getElem?_getD,List.getElem?_eq_getElem hh];rfl
  have hr2:r<p[h].length:=by have:=hp.row h hh;rw[hpe]at this;omega
  have hx:B7 p h r=p[h][r]:=by unfold B7;rw[hpe,List.getD_eq_getElem?_getD,List.getElem?_eq_getElem hr2];rfl
  have htd:t.getD h 0=t[h]:=by rw[List.getD_eq_getElem?_getD,List.getElem?_eq_getElem ht'];rfl
  have hsd:b.sun.getD h 0=b.sun[h]:=by rw[List.getD_eq_getElem?_getD,List.getElem?_eq_getElem hs'];rfl
  have hdir:=hp.dir h r hh (by rw[hpe];exact hr2);have htdir:=ME hb ht ht';rw[hx,DV]at hdir;rw[htd,DV]at htdir;have qs:=fun n=>AUN n b hb (r,q) (by simp only;omega) p[h][r] t[h] hdir htdir;have ih:=AFV b hb p hp t ht r q hr hq γ7 γ9 γ A B d (h+1) c (by omega) hγ n m (by omega);have b1:=bH (fun h=>tQ b (r,q) (B7 p h r) (t.getD h 0)) (IL b p r) h;have hlit:IL b p r h=decide (p[h][r]=b.sun[h]):=by unfold IL;rw[hx,hsd]
  have hdue:I0 b p t r q (h+1)=⟨(I0 b p t r q h).sun+(if IL b p r h=true then 1 else 0),(I0 b p t r q h).calm+(if tQ b (r,q) p[h][r] t[h]=true then 1 else 0),(I0 b p t r q h).good+(if (IL b p r h&&tQ b (r,q) p[h][r] t[h])=true then 1 else 0)⟩:=by
   simp only[I0,FK,fN];have g:∀(f:Nat→Bool),((fN f h+if f h=true then 1 else 0:Nat):Int)=((fN f h:Nat):Int)+(if f h=true then 1 else 0):=fun f=>by split<;>simp
   rw[g,g (fun h=>tQ b (r,q) (B7 p h r) (t.getD h 0)),g (fun h=>IL b p r h&&tQ b (r,q) (B7 p h r) (t.getD h 0)),hx,htd]
  change 0≤(I0 b p t r q h).sun∧(I0 b p t r q h).sun≤h∧0≤(I0 b p t r q h).calm∧(I0 b p t r q h).calm≤h∧0≤(I0 b p t r q h).good∧(I0 b p t r q h).good≤h at b1;have w1:IntKind.i64.wrap ((I0 b p t r q h).sun+1)=(I0 b p t r q h).sun+1:=AV (by omega) (by omega);have w2:IntKind.i64.wrap ((I0 b p t r q h).calm+1)=(I0 b p t r q h).calm+1:=AV (by omega) (by omega);have w3:IntKind.i64.wrap ((I0 b p t r q h).good+1)=(I0 b p t r q h).good+1:=AV (by omega) (by omega);rw[hdue,hlit]at ih;generalize I0 b p t r q t.length=FF at ih⊢;generalize I0 b p t r q h=D at *;generalize e1:decide (p[h][r]=b.sun[h])=z1 at ih;generalize tQ b (r,q) p[h][r] t[h]=z2 at ih qs;rw[AC];simp only[AB,AG]at ih qs⊢;cases z1<;>cases z2<;>(simp[BI]at ih;simp[hw,hh,ht',hs',hr2,AM,AH,AG,BI,e1,qs,w1,w2,w3,hγ,E9,ET,O6,O7,O8,JG,JH,K1,ih])
theorem A8L{k:Nat}{x:EI}(h:k≤10000):CA Tryz.prog 139 k [BI x]=true:=by rw[CH (by simp[BI]) (by simp)];simp[maxLen,BI];omega
theorem AUO{k:Nat}{v:V}(h:k≤10000):CA Tryz.prog 137 k [[v]]=true:=by rw[CH (by simp) (by simp)];simp[maxLen];omega
theorem AOT(b:AJ)(hb:Valid b)(p:List (List Int))(hp:FD b p)(t:List Int)(ht:AU t b.winds=true)(r:Nat)(hr:(r:Int)<b.rows)(γ7:Nat)(A:List (List V)):∀(d q c γ:Nat),q+d=b.places.toNat→∃c' γ',∀n m,d<m→BC (AE Tryz.prog ann kn (n+1000) 89) YG (ann 89 (BR YG)) m ⟨c,[(1,true,GN p),(2,true,li t),(3,true,.ptr 0 3 0 0),(7,true,pv 87 γ7 A),(8,true,i r),(9,true,pv 83 γ ((EF b p t r q).map BI)),(10,true,i q)],⟨[],(3,0,.box (AB b))::(pl 83 γ 139 ((EF b p t r q).map BI)++pl 87 γ7 137 A)⟩⟩ =
  some (.exit 2,⟨c',[(24,true,.bool false),(23,true,i b.places),(22,true,.ptr 0 3 0 2),(21,true,i b.places),(1,true,GN p),(2,true,li t),(3,true,.ptr 0 3 0 0),(7,true,pv 87 γ7 A),(8,true,i r),(9,true,pv 83 γ' ((EF b p t r b.places.toNat).map BI)),(10,true,i b.places)],⟨[],(3,0,.box (AB b))::(pl 83 γ' 139 ((EF b p t r b.places.toNat).map BI)++pl 87 γ7 137 A)⟩⟩)
 |0,q,c,γ,hd=>by
  have hpc:=hb.pl;have h1:q=b.places.toNat:=by omega
  have h2:b.places=(q:Int):=by omega
  rw[←h1];refine⟨c,γ,fun n m hm=>?_⟩;obtain⟨m,rfl⟩:∃m',m=m'+1:=⟨m-1,by omega⟩;rw[AC];simp[AB,h2,O6,O7,O8,JG,JH,K1]
 |d+1,q,c,γ,hd=>by
  have hpc:=hb.pl;have hla:=hb.la;have hlw:=BU ht;have hwi:=hb.wi;have hq:(q:Int)<b.places:=by omega
  have hw:=BH (k:=q) (by omega);have qq:=AFV b hb p hp t ht r q hr hq γ7 γ c A ((EF b p t r q).map BI) t.length 0 (c+1) (by omega) (by omega);have qq:=fun n m=>qq n (m+100) (by omega);have h0:I0 b p t r q 0=⟨0,0,0⟩:=rfl;rw[h0]at qq;obtain⟨c',γ',ih⟩:=AOT b hb p hp t ht r hr γ7 A d (q+1) (c+2) (c+1) (by omega);rw[nW]at ih;have happ:=A8L (k:=(EF b p t r q).length) (x:=I0 b p t r q t.length) (by simp[EF];omega);refine⟨c',γ',fun n m hm=>?_⟩;obtain⟨m,rfl⟩:∃m',m=m'+1:=⟨m-1,by omega⟩;have ih:=ih n m (by omega);generalize I0 b p t r q t.length=Y at *;generalize EF b p t r b.places.toNat=RR at *;generalize EF b p t r q=R at *;rw[AC];simp only[AB]at qq ih⊢;simp[BI]at qq ih happ;simp[hq,hw,BI,qq,happ,E9,O6,O7,O8,JG,JH,K1,vG,AE1,ih]
theorem AOU(b:AJ)(hb:Valid b)(p:List (List Int))(hp:FD b p)(t:List Int)(ht:AU t b.winds=true):∀(d r c γ:Nat),r+d=b.rows.toNat→∃fr c' γ',BZ fr 7=some (true,pv 87 γ' ((NM b p t b.rows.toNat).map BF))∧∀n m,d<m→BC (AE Tryz.prog ann kn (n+1200) 89) YH (ann 89 (BR YH)) m ⟨c,[(1,true,GN p),(2,true,li t),(3,true,.ptr 0 3 0 0),(7,true,pv 87 γ ((NM b p t r).map BF)),(8,true,i r)],⟨[],(3,0,.box (AB b))::pl 87 γ 137 ((NM b p t r).map BF)⟩⟩ =
  some (.exit 0,⟨c',fr,⟨[],(3,0,.box (AB b))::pl 87 γ' 137 ((NM b p t b.rows.toNat).map BF)⟩⟩)
 |0,r,c,γ,hd=>by
  have hro:=hb.ro;have h1:r=b.rows.toNat:=by omega
  have h2:b.rows=(r:Int):=by omega
  rw[←h1];refine⟨?fr,c,γ,?g1,fun n m hm=>?g2⟩;case g2=>
   obtain⟨m,rfl⟩:∃m',m=m'+1:=⟨m-1,by omega⟩
   rw[AC]
   simp[AB,h2]
   rfl
  case g1=>simp
 |d+1,r,c,γ,hd=>by
  have hro:=hb.ro;have hpc:=hb.pl;have hr:(r:Int)<b.rows:=by omega
  have hw:=BH (k:=r) (by omega);obtain⟨c1,γ1,q⟩:=AOT b hb p hp t ht r hr γ ((NM b p t r).map BF) b.places.toNat 0 c 0 (by omega);have q:=fun n m=>q n (m+100) (by omega);have h0:EF b p t r 0=[]:=rfl;rw[h0]at q;obtain⟨fr,c',γ',e1,ih⟩:=AOU b hb p hp t ht d (r+1) (c1+1) c1 (by omega);rw[zO]at ih;have happ:=AUO (k:=(NM b p t r).length) (v:=.list false ((EF b p t r b.places.toNat).map BI)) (by simp[NM];omega);have hne:EF b p t r b.places.toNat≠[]:=by intro e;have:=congrArg List.length e;simp[EF]at this;omega
  have hsl:sl ((EF b p t r b.places.toNat).map BI)=.list false ((EF b p t r b.places.toNat).map BI):=by obtain⟨x,L,e⟩:=List.exists_cons_of_ne_nil hne;rw[e];rfl
  refine⟨fr,c',γ',e1,fun n m hm=>?_⟩;obtain⟨m,rfl⟩:∃m',m=m'+1:=⟨m-1,by omega⟩;have ih:=ih n m (by omega);generalize NM b p t b.rows.toNat=FF at ih⊢;generalize EF b p t r b.places.toNat=RR at ih q happ hsl;have htl:∀o,E1 0 83 o (pl 87 γ 137 ((NM b p t r).map BF))=pl 87 γ 137 ((NM b p t r).map BF):=fun o=>VO (by decide) _ _ _ (by simp[BF,BI]);rw[AC];simp only[AB]at ih q⊢;simp[BF]at ih q happ;simp[hr,hw,BF,q,ih,happ,htl,hsl,O6,O7,O8,JG,JH,K1]
theorem AFW(n:Nat)(b:AJ)(hb:Valid b)(p:List (List Int))(hp:FD b p)(t:List Int)(ht:AU t b.winds=true):AW Tryz.prog kn (AE Tryz.prog ann kn (n+1400)) 28 [.agg (AB b),GN p,li t]=some (sl ((NM b p t b.rows.toNat).map BF)):=by rw[AQ rfl,AP Tryz.func28 b28 rfl (by simp[AB,AH,AM,AG])];have hro:=hb.ro;obtain⟨fr,c',γ',e1,q⟩:=AOU b hb p hp t ht b.rows.toNat 0 1 0 (by omega);have q:=fun n m=>q n (m+100) (by omega);have h0:NM b p t 0=[]:=rfl;rw[h0]at q;generalize NM b p t b.rows.toNat=FF at *;simp only[AB]at q⊢;simp at q;simp[c28,AF,q,e1];simp[BF,BI]
theorem AK9{b:AJ}(hb:Valid b){p:List (List Int)}(hp:FD b p){t:List Int}(ht:AU t b.winds=true):NM b p t b.rows.toNat=DH b p t b.rows.toNat:=by unfold NM DH;apply List.map_congr_left;intro r hr;have hr:=List.mem_range.1 hr;unfold EF UH;apply List.map_congr_left;intro q _;exact(ACP hb hp ht (by omega) q).symm
end Go.Proofs.Tryz.Op
