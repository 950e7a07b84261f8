/- Contracts of the reference: IsPlan, IsListed, IsTruth. No condition but a valid beach. -/
import Derived.Test.YthhdhbalenanjaaGreatW4
open Go.Proofs.Tryz renaming prog->bh
open List renaming getD_eq_getElem?_getD->bj,drop_eq_getElem_cons->bk,getElem?_eq_getElem->bq,drop_length->bw,drop_zero->bx,getElem_mem->bb,map_congr_left->bf,range->bg
open Bool renaming false_and->bz,true_and->bc
set_option maxRecDepth 100000
set_option linter.unusedSimpArgs false
open Go Go.Pg Go.Proofs Go.Wind
namespace Go.Proofs.Tryz.Op
theorem sE(b:AK)(hb:Valid b)(pl:List (List Int))(hl:pl.length<=100):∀(d k:Nat),k+d=pl.length->∃fr,(A3 fr 1=some (true,FI pl)/\A3 fr 2=some (true,.ptr 0 2 0 0))/\∀n m,d<m->A9 (AE bh ann kn (n+400) 34) T6 (ann 34 (BV T6)) m ⟨1,[(1,true,FI pl),(2,true,.ptr 0 2 0 0),(5,true,i k)],⟨[],[(2,0,.box (AC b))]⟩⟩ =
  if (pl.drop k).all (fun l=>decide ((l.length:Int)=b.rows)&&ER l 0)=true then some (.exit 0,⟨1,fr,⟨[],[(2,0,.box (AC b))]⟩⟩) else some (.ret,⟨1,[(4,true,.bool false)],⟨[],[]⟩⟩)
 |0,k,hk=>by
  have:k=pl.length:=by omega
  subst this;refine⟨?fr,?g1,fun n m hm=>?g3⟩;case g3=>
   obtain⟨m,rfl⟩:=qNz m (by omega)
   rw[bw,AB]
   simp[AC]
   rfl
  case g1=>simp
 |d+1,k,hk=>by
  have hk':k<pl.length:=by omega
  have hw:=BH (k:=k) (by omega);have hro:=hb.ro;obtain⟨fr,e1,ih⟩:=sE b hb pl hl d (k+1) (by omega);rw[bk hk',List.all_cons];by_cases h:(pl[k].length:Int)=b.rows
  ·have q:=fun n=>AAJ n pl[k] 0 (by omega);cases hz:ER pl[k] 0 with
   |true=>
    rw[hz]at q
    simp only[h,decide_true,bc]
    refine⟨fr,e1,fun n m hm=>?_⟩
    obtain⟨m,rfl⟩:=qNz m (by omega)
    have ih:=ih n m (by omega)
    rw[AB]
    simp only[AC]at ih|-
    simp at ih
    simp[hk',hw,AW,AY,h,q,ih]
   |false=>
    rw[hz]at q
    simp only[h,decide_true,bc,bz]
    refine⟨fr,e1,fun n m hm=>?_⟩
    obtain⟨m,rfl⟩:=qNz m (by omega)
    rw[AB]
    simp[AC,hk',AW,AY,h,q]
  ·simp only[h,decide_false,bz];refine⟨fr,e1,fun n m hm=>?_⟩;obtain⟨m,rfl⟩:=qNz m (by omega);rw[AB];simp[AC,hk',AY,h,lX]
theorem AJ2(n:Nat)(b:AK)(hb:Valid b)(pl:List (List Int))(hl:pl.length<=100):AZ bh kn (AE bh ann kn (n+600)) 116 [.agg (AC b),FI pl]=some (.bool (D6 b pl)):=by rw[AN rfl,AO Tryz.func116 BF6 rfl (by simp[AC,AW,AY,AH])];have hla:=hb.la;have hwl:IntKind.i64.wrap (b.last+1)=b.last+1:=AX (by omega) (by omega);obtain⟨fr,⟨e1,e2⟩,q⟩:=sE b hb pl hl pl.length 0 (by omega);have q:=fun n m=>q n (m+110) (by omega);rw[bx]at q;unfold D6;generalize (pl.all fun l=>decide ((l.length:Int)=b.rows)&&ER l 0)=z at q|-;simp only[AC]at q|-;cases z<;>(simp at q;simp[A5N,AF,q,e1,e2,hwl])
theorem sF(b:AK)(t:List Int)(hl:t.length=b.winds.length)(h100:t.length<=100)(h4:∀l∈b.winds,l.length<=100):∀(d k:Nat),k+d=t.length->∃fr,∀n m,d<m->A9 (AE bh ann kn (n+400) 29) aM (ann 29 (BV aM)) m ⟨1,[(1,true,li t),(2,true,.ptr 0 2 0 0),(5,true,i k)],⟨[],[(2,0,.box (AC b))]⟩⟩ =
  if A2 (t.drop k) (b.winds.drop k)=true then some (.exit 0,⟨1,fr,⟨[],[(2,0,.box (AC b))]⟩⟩) else some (.ret,⟨1,[(4,true,.bool false)],⟨[],[]⟩⟩)
 |0,k,hk=>by
  have:k=t.length:=by omega
  subst this;refine⟨?fr,fun n m hm=>?g3⟩;case g3=>
   obtain⟨m,rfl⟩:=qNz m (by omega)
   have:b.winds.drop t.length=[]:=by rw[hl];exact bw
   rw[bw,this,AB]
   simp[A2,AC]
   rfl
 |d+1,k,hk=>by
  have hk':k<t.length:=by omega
  have hk2:k<b.winds.length:=by omega
  have hw:=BH (k:=k) (by omega);obtain⟨fr,ih⟩:=sF b t hl h100 h4 d (k+1) (by omega);have q:=fun n=>BI6 n b.winds[k] t[k] (h4 _ (bb hk2));rw[bk hk',bk hk2];simp only[A2];by_cases h:t[k]∈b.winds[k]
  ·simp only[h,decide_true,bc]at q|-;refine⟨fr,fun n m hm=>?_⟩;obtain⟨m,rfl⟩:=qNz m (by omega);have ih:=ih n m (by omega);rw[AB];simp only[AC]at ih|-;simp at ih;simp[hk',hk2,hw,AW,AY,q,ih]
  ·simp only[h,decide_false,bz]at q|-;refine⟨[],fun n m hm=>?_⟩;obtain⟨m,rfl⟩:=qNz m (by omega);rw[AB];simp[AC,hk',hk2,AW,AY,q]
theorem AJ3(n:Nat)(b:AK)(hb:Valid b)(t:List Int):AZ bh kn (AE bh ann kn (n+600)) 27 [.agg (AC b),li t]=some (.bool (A2 t b.winds)):=by
 rw[AN rfl,AO Tryz.func27 b27 rfl (by simp[AC,AW,AY,AH])];have hla:=hb.la;have hwi:=hb.wi;by_cases h:t.length=b.winds.length
 ·obtain⟨fr,q⟩:=sF b t h (by omega) (fun l hl=>by have:=hb.wl l hl;omega) t.length 0 (by omega);have q:=fun n m=>q n (m+110) (by omega);rw[bx,bx]at q;generalize A2 t b.winds=z at q|-;simp only[AC]at q|-;cases z<;>(simp at q;simp[c27,AF,h,q])
 ·rw[ADP h];have h':¬(t.length:Int)=(b.winds.length:Int):=by omega
  simp[c27,AF,AC,h']
theorem AAF(b:AK)(t:List Int)(hn:∀x∈b.notes,0<=x.1/\x.1<t.length)(hl:b.notes.length<=100):∀(d k:Nat),k+d=b.notes.length->∃fr,∀n m,d<m->A9 (AE bh ann kn (n+400) 33) T7 (ann 33 (BV T7)) m ⟨1,[(1,true,li t),(2,true,.ptr 0 2 0 0),(5,true,i k)],⟨[],[(2,0,.box (AC b))]⟩⟩ =
  if (b.notes.drop k).all (KG t)=true then some (.exit 0,⟨1,fr,⟨[],[(2,0,.box (AC b))]⟩⟩) else some (.ret,⟨1,[(4,true,.bool false)],⟨[],[]⟩⟩)
 |0,k,hk=>by
  have:k=b.notes.length:=by omega
  subst this;refine⟨?fr,fun n m hm=>?g3⟩;case g3=>
   obtain⟨m,rfl⟩:=qNz m (by omega)
   rw[bw,AB]
   simp[AC]
   rfl
 |d+1,k,hk=>by
  have hk':k<b.notes.length:=by omega
  have hw:=BH (k:=k) (by omega);obtain⟨fr,ih⟩:=AAF b t hn hl d (k+1) (by omega);obtain⟨h0,h1⟩:=hn _ (bb hk');rw[bk hk'];have h1':b.notes[k].1.toNat<t.length:=by omega
  have ha:atI t b.notes[k].1=t[b.notes[k].1.toNat]:=by unfold atI;rw[bj,bq (by omega)];rfl
  have hr:KG t b.notes[k]=decide (t[b.notes[k].1.toNat]=b.notes[k].2):=by unfold KG;rw[ha]
  simp only[List.all_cons,hr];by_cases h2:t[b.notes[k].1.toNat]=b.notes[k].2
  ·simp only[h2,decide_true,bc];refine⟨fr,fun n m hm=>?_⟩;obtain⟨m,rfl⟩:=qNz m (by omega);have ih:=ih n m (by omega);rw[AB];simp only[AC]at ih|-;simp at ih;simp[hk',hw,AW,AH,h0,h1,h1',h2,ih]
  ·simp only[h2,decide_false,bz];refine⟨[],fun n m hm=>?_⟩;obtain⟨m,rfl⟩:=qNz m (by omega);rw[AB];simp[AC,hk',AW,AH,h0,h1,h1',h2]
theorem AO8(n:Nat)(b:AK)(hb:Valid b)(t:List Int):AZ bh kn (AE bh ann kn (n+800)) 102 [.agg (AC b),li t]=some (.bool (DA b t)):=by
 rw[AN rfl,AO Tryz.func102 BF8 rfl (by simp[AC,AW,AY,AH])];have q1:=fun n=>AJ3 n b hb t;have hno:=hb.no;unfold DA;by_cases h:A2 t b.winds=true
 ·rw[h]at q1;obtain⟨fr,q⟩:=AAF b t (Valid.notes' hb (CX h)) (by have:=hb.no;omega) b.notes.length 0 (by omega);have q:=fun n m=>q n (m+110) (by omega);rw[bx]at q;rw[h];generalize b.notes.all (KG t)=z at q|-;simp only[AC]at q q1|-;cases z<;>(simp at q;simp[AT0,AF,AW,AY,AH,q1,q])
 ·have h:A2 t b.winds=false:=by simpa using h
  rw[h]at q1;simp only[AC]at q1|-;simp[AT0,AF,AW,AY,AH,q1,h]
end Go.Proofs.Tryz.Op
namespace Go.Wind
def mE(b:AK)(s:Int×Int)(w:Int):Nat->Nat->Bool
 |0,_=>false
 |d+1,j=>(b.breaks.any fun k=>decide (k=DQ s w ((j:Int)+1)))||mE b s w d (j+1)
theorem AAG(b:AK)(s:Int×Int)(w:Int):∀(d j:Nat),mE b s w d j=(bg d).any fun i=>b.breaks.any fun k=>decide (k=DQ s w (((j+i:Nat):Int)+1))
 |0,_=>rfl
 |d+1,j=>by rw[mE,AAG b s w d (j+1),List.range_succ_eq_map,List.any_cons,List.any_map];congr 1;congr 1;funext i;simp only[Function.comp];rw[show j+1+i=j+(i+1) by omega]
theorem BA5(b:AK)(s:Int×Int)(f w:Int):yB b s f w=(decide ((f+2) % 4=w)||mE b s w b.reach.toNat 0):=by unfold yB;rw[AAG];simp
end Go.Wind
namespace Go.Proofs.Tryz.Op
theorem eqS(a1 a2 b1 b2:Int)(h1:FE a1)(h2:FE a2)(g1:FE b1)(g2:FE b2):NA bh 59 [i a1,i a2] [i b1,i b2]=some (decide (a1=b1)&&decide (a2=b2)):=by
 have kl:∀a b:Int,FE a->FE b->Program.keyLits bh 16 59 [.int .i64 a,.int .i64 b]=some [.int .i64 a,.int .i64 b]:=fun a b ha hb=>by unfold Program.keyLits;simp[Tryz.underlying59,k3I (wfI ha),k3I (wfI hb)]
 have kt:(tT bh 59&&Program.keyTypeAt bh 16 59&&!(bh.eqGuardType bh.depth 59))=true:=by kernel_rfl
 unfold NA;simp[DV,kl _ _ h1 h2,kl _ _ g1 g2];refine⟨⟨by simpa using kt,by simp[CK]⟩,?_⟩;simp only[JM,Bool.and_true];congr 1
theorem sG(b:AK)(hbr:∀k∈b.breaks,0<=k.1/\k.1<=100/\0<=k.2/\k.2<=100)(hl:b.breaks.length<=100)(x:Int×Int)(hx:-1000<=x.1/\x.1<=1000/\-1000<=x.2/\x.2<=1000)(w:Int)(j γ c:Nat):∀(d k:Nat),k+d=b.breaks.length->∀n m,d<m->A9 (AE bh ann kn (n+100) 63) T8 (ann 63 (BV T8)) m ⟨c,[(3,true,i w),(4,true,.ptr 0 4 0 0),(9,true,.ptr 0 9 γ 0),(10,true,i j),(11,true,i k)],⟨[],[(4,0,.box (AC b)),(9,γ,.box (AH x))]⟩⟩ =
  if ((b.breaks.drop k).any fun q=>decide (q=x))=true then some (.ret,⟨c,[(8,true,.bool true)],⟨[],[]⟩⟩)
  else some (.exit 3,⟨c,[(53,true,.bool false),(52,true,i b.breaks.length),(51,true,.list false (b.breaks.map AH)),(50,true,.ptr 0 4 0 7),(49,true,i b.breaks.length),(3,true,i w),(4,true,.ptr 0 4 0 0),(9,true,.ptr 0 9 γ 0),(10,true,i j),(11,true,i b.breaks.length)],⟨[],[(4,0,.box (AC b)),(9,γ,.box (AH x))]⟩⟩)
 |0,k,hk,n,m+1,hm=>by
  have:k=b.breaks.length:=by omega
  subst this;rw[bw,AB];simp[AC,AH]
 |d+1,k,hk,n,m+1,hm=>by
  have hk':k<b.breaks.length:=by omega
  have hw:=BH (k:=k) (by omega);have ih:=sG b hbr hl x hx w j γ c d (k+1) (by omega) n m (by omega);obtain⟨g1,g2,g3,g4⟩:=hbr _ (bb hk');obtain⟨x1,x2,x3,x4⟩:=hx;have he:=eqS b.breaks[k].1 b.breaks[k].2 x.1 x.2 ⟨by omega,by omega⟩ ⟨by omega,by omega⟩ ⟨by omega,by omega⟩ ⟨by omega,by omega⟩;rw[bk hk',List.any_cons];have hq:decide (b.breaks[k]=x)=(decide (b.breaks[k].1=x.1)&&decide (b.breaks[k].2=x.2)):=by rw[Bool.eq_iff_iff];simp[Prod.ext_iff]
  rw[<-hq]at he;generalize decide (b.breaks[k]=x)=z at he|-;rw[AB];simp only[AC,AH]at ih he|-;cases z with
  |true=>simp[hk',AH,he]
  |false=>
   simp only[Bool.false_or]
   simp at ih
   simp[hk',hw,AH,he,ih]
theorem ADJ(s:Int×Int)(w:Int)(hw:0<=w/\w<=3)(j:Nat):DQ s w ((j:Int)+1)=if w=0 then((DQ s w j).1-1,(DQ s w j).2) else if w=1 then((DQ s w j).1,(DQ s w j).2+1) else if w=2 then((DQ s w j).1+1,(DQ s w j).2) else((DQ s w j).1,(DQ s w j).2-1):=by
 have:w=0\/w=1\/w=2\/w=3:=by omega
 unfold DQ;rcases this with rfl|rfl|rfl|rfl<;>simp<;>omega
theorem AAH(s:Int×Int)(hs:0<=s.1/\s.1<=100/\0<=s.2/\s.2<=100)(w:Int)(j:Int)(hj:0<=j/\j<=100):-1000<=(DQ s w j).1/\(DQ s w j).1<=1000/\-1000<=(DQ s w j).2/\(DQ s w j).2<=1000:=by unfold DQ;split<;>(try split)<;>(try split)<;>(try split)<;>(try simp only)<;>omega
theorem AAI(b:AK)(hb:Valid b)(hbr:∀k∈b.breaks,0<=k.1/\k.1<=100/\0<=k.2/\k.2<=100)(s:Int×Int)(hs:0<=s.1/\s.1<=100/\0<=s.2/\s.2<=100)(w:Int)(hw:0<=w/\w<=3)(γ c:Nat)(hγ:γ<c):∀(d j:Nat),j+d=b.reach.toNat->∃fr,∀n m,d<m->A9 (AE bh ann kn (n+300) 63) aN (ann 63 (BV aN)) m ⟨c,[(3,true,i w),(4,true,.ptr 0 4 0 0),(9,true,.ptr 0 9 γ 0),(10,true,i j)],⟨[],[(4,0,.box (AC b)),(9,γ,.box (AH (DQ s w j)))]⟩⟩ =
  if mE b s w d j=true then some (.ret,⟨c,[(8,true,.bool true)],⟨[],[]⟩⟩) else some (.exit 0,⟨c,fr,⟨[],[(4,0,.box (AC b)),(9,γ,.box (AH (DQ s w b.reach.toNat)))]⟩⟩)
 |0,j,hd=>by
  have hre:=hb.re;have h1:j=b.reach.toNat:=by omega
  have h2:b.reach=(j:Int):=by omega
  rw[<-h1];refine⟨?fr,fun n m hm=>?g2⟩;case g2=>
   obtain⟨m,rfl⟩:=qNz m (by omega)
   rw[AB]
   simp[AC,AH,h2,mE]
   rfl
 |d+1,j,hd=>by
  have hre:=hb.re;have hbk:=hb.br;have hj:(j:Int)<b.reach:=by omega
  have hw1:=BH (k:=j) (by omega);have x0:=AAH s hs w j (by omega);have x1:=AAH s hs w ((j:Int)+1) (by omega);have q:=sG b hbr (by omega) (DQ s w ((j:Int)+1)) x1 w j γ c b.breaks.length 0 (by omega);have q:=fun n m=>q n (m+150) (by omega);rw[bx]at q;obtain⟨fr,ih⟩:=AAI b hb hbr s hs w hw γ c hγ d (j+1) (by omega);have e:DQ s w ((j+1:Nat):Int)=DQ s w ((j:Int)+1):=by rw[Int.natCast_succ]
  rw[e]at ih;have hn:=ADJ s w hw j;refine⟨fr,fun n m hm=>?_⟩;obtain⟨m,rfl⟩:=qNz m (by omega);have ih:=ih n m (by omega);rw[show mE b s w (d+1) j=((b.breaks.any fun k=>decide (k=DQ s w ((j:Int)+1)))||mE b s w d (j+1)) from rfl];generalize DQ s w ((j:Int)+1)=X' at *;generalize DQ s w (j:Int)=X at *;generalize DQ s w (b.reach.toNat:Int)=X2 at *;generalize (b.breaks.any fun k=>decide (k=X'))=z at q|-;have wa:IntKind.i64.wrap (X.1-1)=X.1-1:=AX (by omega) (by omega);have wb:IntKind.i64.wrap (X.1+1)=X.1+1:=AX (by omega) (by omega);have wc:IntKind.i64.wrap (X.2-1)=X.2-1:=AX (by omega) (by omega);have wd:IntKind.i64.wrap (X.2+1)=X.2+1:=AX (by omega) (by omega);have hw4:w=0\/w=1\/w=2\/w=3:=by omega
  rw[AB];simp only[AC]at q ih|-;rcases hw4 with rfl|rfl|rfl|rfl<;>(simp at hn;subst hn;cases z<;>(simp[AH]at q ih;simp[hj,hw1,hγ,AH,wa,wb,wc,wd,q,ih]))
theorem AYE(n:Nat)(b:AK)(hb:Valid b)(s:Int×Int)(hs:0<=s.1/\s.1<=100/\0<=s.2/\s.2<=100)(f w:Int)(hf:0<=f/\f<=3)(hw:0<=w/\w<=3):AZ bh kn (AE bh ann kn (n+500)) 76 [.agg (AC b),.agg (AH s),i f,i w]=some (.bool (yB b s f w)):=by
 rw[AN rfl,AO Tryz.func76 b76 rfl (by simp[AC,AW,AY,AH])];have hre:=hb.re;obtain⟨fr,q⟩:=AAI b hb (Valid.br' hb) s hs w hw 2 3 (by omega) b.reach.toNat 0 (by omega);have q:=fun n m=>q n (m+150) (by omega);have e0:DQ s w ((0:Nat):Int)=s:=by unfold DQ;split<;>(try split)<;>(try split)<;>(try split)<;>simp
 rw[e0]at q;have hwf:IntKind.i64.wrap (f+2)=f+2:=AX (by omega) (by omega);have hm:(f+2).tmod 4=(f+2) % 4:=Int.tmod_eq_emod_of_nonneg (by omega);rw[BA5];generalize mE b s w b.reach.toNat 0=z at q|-;generalize DQ s w (b.reach.toNat:Int)=X2 at q;simp only[AC]at q|-;by_cases h:(f+2) % 4=w
 ·simp[c76,AF,hwf,hm,h]
 ·cases z<;>(simp[AH]at q;simp[c76,AF,AH,hwf,hm,h,q])
end Go.Proofs.Tryz.Op
namespace Go.Wind
def JK(b:AK)(p:List (List Int))(t:List Int)(r q h:Nat):fD:=IM (fun h=>yB b (r,q) (C7 p h r) (t.getD h 0)) (M8 b p r) h
def EO(b:AK)(p:List (List Int))(t:List Int)(r n:Nat):List fD:=(bg n).map fun q=>JK b p t r q t.length
def OM(b:AK)(p:List (List Int))(t:List Int)(n:Nat):List (List fD):=(bg n).map fun r=>EO b p t r b.places.toNat
theorem sH(b:AK)(p:List (List Int))(t:List Int)(r n:Nat):EO b p t r (n+1)=EO b p t r n++[JK b p t r n t.length]:=by simp[EO,List.range_succ]
theorem ADK(b:AK)(p:List (List Int))(t:List Int)(n:Nat):OM b p t (n+1)=OM b p t n++[EO b p t n b.places.toNat]:=by simp[OM,List.range_succ]
end Go.Wind
namespace Go.Proofs.Tryz.Op
theorem AJ4(b:AK)(hb:Valid b)(p:List (List Int))(hp:FL b p)(t:List Int)(ht:A2 t b.winds=true)(r q:Nat)(hr:(r:Int)<b.rows)(hq:(q:Int)<b.places)(γ7 γ9 γ:Nat)(A B:List (List V)):∀(d h c:Nat),h+d=t.length->γ<c->∀n m,d<m->A9 (AE bh ann kn (n+800) 89) T9 (ann 89 (BV T9)) m ⟨c,[(1,true,FI p),(2,true,li t),(3,true,.ptr 0 3 0 0),(7,true,pv 87 γ7 A),(8,true,i r),(9,true,pv 83 γ9 B),(10,true,i q),(11,true,.ptr 0 11 γ 0),(12,true,i h)],⟨[],(3,0,.box (AC b))::(11,γ,.box (F9 (JK b p t r q h)))::(pl 83 γ9 139 B++pl 87 γ7 137 A)⟩⟩ =
  some (.exit 4,⟨c,[(30,true,.bool false),(29,true,i t.length),(28,true,li t),(27,true,i t.length),(1,true,FI p),(2,true,li t),(3,true,.ptr 0 3 0 0),(7,true,pv 87 γ7 A),(8,true,i r),(9,true,pv 83 γ9 B),(10,true,i q),(11,true,.ptr 0 11 γ 0),(12,true,i t.length)],⟨[],(3,0,.box (AC b))::(11,γ,.box (F9 (JK b p t r q t.length)))::(pl 83 γ9 139 B++pl 87 γ7 137 A)⟩⟩)
 |0,h,c,hd,hγ,n,m+1,hm=>by
  have:h=t.length:=by omega
  rw[<-this,AB];simp[AC,this,F9,KS,I3,H1]
 |d+1,h,c,hd,hγ,n,m+1,hm=>by
  have hla:=hb.la;have hro:=hb.ro;have hpc:=hb.pl;have hlw:=CX ht;have hwi:=hb.wi;have hsu:=hb.su;have hpn:=hp.len;have hw:=BH (k:=h) (by omega);have hh:h<p.length:=by omega
  have ht':h<t.length:=by omega
  have hs':h<b.sun.length:=by omega
  have hpe:p.getD h []=p[h]:=by rw[bj,bq hh];rfl
  have hr2:r<p[h].length:=by have:=hp.row h hh;rw[hpe]at this;omega
  have hx:C7 p h r=p[h][r]:=by unfold C7;rw[hpe,bj,bq hr2];rfl
  have htd:t.getD h 0=t[h]:=by rw[bj,bq ht'];rfl
  have hsd:b.sun.getD h 0=b.sun[h]:=by rw[bj,bq hs'];rfl
  have hdir:=hp.dir h r hh (by rw[hpe];exact hr2);have htdir:=R3 hb ht ht';rw[hx,C6]at hdir;rw[htd,C6]at htdir;have qs:=fun n=>AYE n b hb (r,q) (by simp only;omega) p[h][r] t[h] hdir htdir;have ih:=AJ4 b hb p hp t ht r q hr hq γ7 γ9 γ A B d (h+1) c (by omega) hγ n m (by omega);have b1:=AYO (fun h=>yB b (r,q) (C7 p h r) (t.getD h 0)) (M8 b p r) h;have hlit:M8 b p r h=decide (p[h][r]=b.sun[h]):=by unfold M8;rw[hx,hsd]
  have hdue:JK b p t r q (h+1)=⟨(JK b p t r q h).sun+(if M8 b p r h=true then 1 else 0),(JK b p t r q h).calm+(if yB b (r,q) p[h][r] t[h]=true then 1 else 0),(JK b p t r q h).good+(if (M8 b p r h&&yB b (r,q) p[h][r] t[h])=true then 1 else 0)⟩:=by
   simp only[JK,IM,mP];have g:∀(f:Nat->Bool),((mP f h+if f h=true then 1 else 0:Nat):Int)=((mP f h:Nat):Int)+(if f h=true then 1 else 0):=fun f=>by split<;>simp
   rw[g,g (fun h=>yB b (r,q) (C7 p h r) (t.getD h 0)),g (fun h=>M8 b p r h&&yB b (r,q) (C7 p h r) (t.getD h 0)),hx,htd]
  change 0<=(JK b p t r q h).sun/\(JK b p t r q h).sun<=h/\0<=(JK b p t r q h).calm/\(JK b p t r q h).calm<=h/\0<=(JK b p t r q h).good/\(JK b p t r q h).good<=h at b1;have w1:IntKind.i64.wrap ((JK b p t r q h).sun+1)=(JK b p t r q h).sun+1:=AX (by omega) (by omega);have w2:IntKind.i64.wrap ((JK b p t r q h).calm+1)=(JK b p t r q h).calm+1:=AX (by omega) (by omega);have w3:IntKind.i64.wrap ((JK b p t r q h).good+1)=(JK b p t r q h).good+1:=AX (by omega) (by omega);rw[hdue,hlit]at ih;generalize JK b p t r q t.length=FF at ih|-;generalize JK b p t r q h=D at *;generalize e1:decide (p[h][r]=b.sun[h])=z1 at ih;generalize yB b (r,q) p[h][r] t[h]=z2 at ih qs;rw[AB];simp only[AC,AH]at ih qs|-;cases z1<;>cases z2<;>(simp[F9]at ih;simp[hw,hh,ht',hs',hr2,AY,AW,F9,e1,qs,w1,w2,w3,hγ,KS,I3,H1,ih])
theorem BA6{k:Nat}{x:fD}(h:k<=10000):BZ bh 139 k [F9 x]=true:=by rw[BT (by simp) (by simp)];simp[maxLen,F9];omega
theorem AYF{k:Nat}{v:V}(h:k<=10000):BZ bh 137 k [[v]]=true:=by rw[BT (by simp) (by simp)];simp[maxLen];omega
theorem ASS(b:AK)(hb:Valid b)(p:List (List Int))(hp:FL b p)(t:List Int)(ht:A2 t b.winds=true)(r:Nat)(hr:(r:Int)<b.rows)(γ7:Nat)(A:List (List V)):∀(d q c γ:Nat),q+d=b.places.toNat->∃c' γ',∀n m,d<m->A9 (AE bh ann kn (n+1000) 89) aO (ann 89 (BV aO)) m ⟨c,[(1,true,FI p),(2,true,li t),(3,true,.ptr 0 3 0 0),(7,true,pv 87 γ7 A),(8,true,i r),(9,true,pv 83 γ ((EO b p t r q).map F9)),(10,true,i q)],⟨[],(3,0,.box (AC b))::(pl 83 γ 139 ((EO b p t r q).map F9)++pl 87 γ7 137 A)⟩⟩ =
  some (.exit 2,⟨c',[(24,true,.bool false),(23,true,i b.places),(22,true,.ptr 0 3 0 2),(21,true,i b.places),(1,true,FI p),(2,true,li t),(3,true,.ptr 0 3 0 0),(7,true,pv 87 γ7 A),(8,true,i r),(9,true,pv 83 γ' ((EO b p t r b.places.toNat).map F9)),(10,true,i b.places)],⟨[],(3,0,.box (AC b))::(pl 83 γ' 139 ((EO b p t r b.places.toNat).map F9)++pl 87 γ7 137 A)⟩⟩)
 |0,q,c,γ,hd=>by
  have hpc:=hb.pl;have h1:q=b.places.toNat:=by omega
  have h2:b.places=(q:Int):=by omega
  rw[<-h1];refine⟨c,γ,fun n m hm=>?_⟩;obtain⟨m,rfl⟩:=qNz m (by omega);rw[AB];simp[AC,h2,KS,I3,H1]
 |d+1,q,c,γ,hd=>by
  have hpc:=hb.pl;have hla:=hb.la;have hlw:=CX ht;have hwi:=hb.wi;have hq:(q:Int)<b.places:=by omega
  have hw:=BH (k:=q) (by omega);have qq:=AJ4 b hb p hp t ht r q hr hq γ7 γ c A ((EO b p t r q).map F9) t.length 0 (c+1) (by omega) (by omega);have qq:=fun n m=>qq n (m+100) (by omega);have h0:JK b p t r q 0=⟨0,0,0⟩:=rfl;rw[h0]at qq;obtain⟨c',γ',ih⟩:=ASS b hb p hp t ht r hr γ7 A d (q+1) (c+2) (c+1) (by omega);rw[sH]at ih;have happ:=BA6 (k:=(EO b p t r q).length) (x:=JK b p t r q t.length) (by simp[EO];omega);refine⟨c',γ',fun n m hm=>?_⟩;obtain⟨m,rfl⟩:=qNz m (by omega);have ih:=ih n m (by omega);generalize JK b p t r q t.length=Y at *;generalize EO b p t r b.places.toNat=RR at *;generalize EO b p t r q=R at *;rw[AB];simp only[AC]at qq ih|-;simp[F9]at qq ih happ;simp[hq,hw,F9,qq,happ,KS,I3,H1,ih]
theorem AST(b:AK)(hb:Valid b)(p:List (List Int))(hp:FL b p)(t:List Int)(ht:A2 t b.winds=true):∀(d r c γ:Nat),r+d=b.rows.toNat->∃fr c' γ',A3 fr 7=some (true,pv 87 γ' ((OM b p t b.rows.toNat).map MY))/\∀n m,d<m->A9 (AE bh ann kn (n+1200) 89) aP (ann 89 (BV aP)) m ⟨c,[(1,true,FI p),(2,true,li t),(3,true,.ptr 0 3 0 0),(7,true,pv 87 γ ((OM b p t r).map MY)),(8,true,i r)],⟨[],(3,0,.box (AC b))::pl 87 γ 137 ((OM b p t r).map MY)⟩⟩ =
  some (.exit 0,⟨c',fr,⟨[],(3,0,.box (AC b))::pl 87 γ' 137 ((OM b p t b.rows.toNat).map MY)⟩⟩)
 |0,r,c,γ,hd=>by
  have hro:=hb.ro;have h1:r=b.rows.toNat:=by omega
  have h2:b.rows=(r:Int):=by omega
  rw[<-h1];refine⟨?fr,c,γ,?g1,fun n m hm=>?g2⟩;case g2=>
   obtain⟨m,rfl⟩:=qNz m (by omega)
   rw[AB]
   simp[AC,h2]
   rfl
  case g1=>simp
 |d+1,r,c,γ,hd=>by
  have hro:=hb.ro;have hpc:=hb.pl;have hr:(r:Int)<b.rows:=by omega
  have hw:=BH (k:=r) (by omega);obtain⟨c1,γ1,q⟩:=ASS b hb p hp t ht r hr γ ((OM b p t r).map MY) b.places.toNat 0 c 0 (by omega);have q:=fun n m=>q n (m+100) (by omega);have h0:EO b p t r 0=[]:=rfl;rw[h0]at q;obtain⟨fr,c',γ',e1,ih⟩:=AST b hb p hp t ht d (r+1) (c1+1) c1 (by omega);rw[ADK]at ih;have happ:=AYF (k:=(OM b p t r).length) (v:=.list false ((EO b p t r b.places.toNat).map F9)) (by simp[OM];omega);have hne:EO b p t r b.places.toNat≠[]:=by intro e;have:=congrArg List.length e;simp[EO]at this;omega
  have hsl:sl ((EO b p t r b.places.toNat).map F9)=.list false ((EO b p t r b.places.toNat).map F9):=by obtain⟨x,L,e⟩:=List.exists_cons_of_ne_nil hne;rw[e];rfl
  refine⟨fr,c',γ',e1,fun n m hm=>?_⟩;obtain⟨m,rfl⟩:=qNz m (by omega);have ih:=ih n m (by omega);generalize OM b p t b.rows.toNat=FF at ih|-;generalize EO b p t r b.places.toNat=RR at ih q happ hsl;have htl:∀o,FH 0 83 o (pl 87 γ 137 ((OM b p t r).map MY))=pl 87 γ 137 ((OM b p t r).map MY):=fun o=>XG (by decide) _ _ _ (by simp[MY,F9]);rw[AB];simp only[AC]at ih q|-;simp[MY]at ih q happ;simp[hr,hw,MY,q,ih,happ,htl,hsl,KS,H1]
theorem AJ5(n:Nat)(b:AK)(hb:Valid b)(p:List (List Int))(hp:FL b p)(t:List Int)(ht:A2 t b.winds=true):AZ bh kn (AE bh ann kn (n+1400)) 28 [.agg (AC b),FI p,li t]=some (sl ((OM b p t b.rows.toNat).map MY)):=by rw[AN rfl,AO Tryz.func28 b28 rfl (by simp[AC,AW,AY,AH])];have hro:=hb.ro;obtain⟨fr,c',γ',e1,q⟩:=AST b hb p hp t ht b.rows.toNat 0 1 0 (by omega);have q:=fun n m=>q n (m+100) (by omega);have h0:OM b p t 0=[]:=rfl;rw[h0]at q;generalize OM b p t b.rows.toNat=FF at *;simp only[AC]at q|-;simp at q;simp[c28,AF,q,e1];simp[MY,F9]
theorem AO9{b:AK}(hb:Valid b){p:List (List Int)}(hp:FL b p){t:List Int}(ht:A2 t b.winds=true):OM b p t b.rows.toNat=VW b p t b.rows.toNat:=by unfold OM VW;apply bf;intro r hr;have hr:=List.mem_range.1 hr;unfold EO mG;apply bf;intro q _;exact(AGP hb hp ht (by omega) q).symm
end Go.Proofs.Tryz.Op
