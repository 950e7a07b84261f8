/- Contracts of the reference: IsPlan, IsListed, IsTruth. No condition but a valid beach. -/
import Derived.Test.YthhdhbalenanjaaGreatW4
open Go.Proofs.Tryz renaming prog->bh
open List renaming getD_eq_getElem?_getD->bj,drop_eq_getElem_cons->bk,getElem?_eq_getElem->bq,drop_length->bw,drop_zero->bx,getElem_mem->bb,map_congr_left->bf,range->bg
open Bool renaming false_and->bz,true_and->bc
set_option maxRecDepth 100000
set_option linter.unusedSimpArgs false
open Go Go.Pg Go.Proofs Go.Wind
namespace Go.Proofs.Tryz.Op
theorem qV(b:AK)(hb:Valid b)(pl:List (List Int))(hl:pl.length<=100):∀(d k:Nat),k+d=pl.length->∃fr,(BG fr 1=some (true,FV pl)/\BG fr 2=some (true,.ptr 0 2 0 0))/\∀n m,d<m->A8 (AE bh ann kn (n+400) 34) TB (ann 34 (BU TB)) m ⟨1,[(1,true,FV pl),(2,true,.ptr 0 2 0 0),(5,true,i k)],⟨[],[(2,0,.box (AC b))]⟩⟩ =
  if (pl.drop k).all (fun l=>decide ((l.length:Int)=b.rows)&&EF l 0)=true then some (.exit 0,⟨1,fr,⟨[],[(2,0,.box (AC b))]⟩⟩) else some (.ret,⟨1,[(4,true,.bool false)],⟨[],[]⟩⟩)
 |0,k,hk=>by
  have:k=pl.length:=by omega
  subst this;refine⟨?fr,?g1,fun n m hm=>?g3⟩;case g3=>
   obtain⟨m,rfl⟩:=qNz m (by omega)
   rw[bw,AB]
   simp[AC]
   rfl
  case g1=>simp
 |d+1,k,hk=>by
  have hk':k<pl.length:=by omega
  have hw:=BM (k:=k) (by omega);have hro:=hb.ro;obtain⟨fr,e1,ih⟩:=qV b hb pl hl d (k+1) (by omega);rw[bk hk',List.all_cons];by_cases h:(pl[k].length:Int)=b.rows
  ·have q:=fun n=>yR n pl[k] 0 (by omega);cases hz:EF pl[k] 0 with
   |true=>
    rw[hz]at q
    simp only[h,decide_true,bc]
    refine⟨fr,e1,fun n m hm=>?_⟩
    obtain⟨m,rfl⟩:=qNz m (by omega)
    have ih:=ih n m (by omega)
    rw[AB]
    simp only[AC]at ih|-
    simp at ih
    simp[hk',hw,AJ,AV,h,q,ih]
   |false=>
    rw[hz]at q
    simp only[h,decide_true,bc,bz]
    refine⟨fr,e1,fun n m hm=>?_⟩
    obtain⟨m,rfl⟩:=qNz m (by omega)
    rw[AB]
    simp[AC,hk',AJ,AV,h,q]
  ·simp only[h,decide_false,bz];refine⟨fr,e1,fun n m hm=>?_⟩;obtain⟨m,rfl⟩:=qNz m (by omega);rw[AB];simp[AC,hk',AV,h,XU]
theorem AIX(n:Nat)(b:AK)(hb:Valid b)(pl:List (List Int))(hl:pl.length<=100):AY bh kn (AE bh ann kn (n+600)) 116 [.agg (AC b),FV pl]=some (.bool (EG b pl)):=by rw[AN rfl,AM Tryz.func116 BEP rfl (by simp[AC,AJ,AV,AQ])];have hla:=hb.la;have hwl:IntKind.i64.wrap (b.last+1)=b.last+1:=AO (by omega) (by omega);obtain⟨fr,⟨e1,e2⟩,q⟩:=qV b hb pl hl pl.length 0 (by omega);have q:=fun n m=>q n (m+110) (by omega);rw[bx]at q;unfold EG;generalize (pl.all fun l=>decide ((l.length:Int)=b.rows)&&EF l 0)=z at q|-;simp only[AC]at q|-;cases z<;>(simp at q;simp[A34,AF,q,e1,e2,hwl])
theorem qW(b:AK)(t:List Int)(hl:t.length=b.winds.length)(h100:t.length<=100)(h4:∀l∈b.winds,l.length<=100):∀(d k:Nat),k+d=t.length->∃fr,∀n m,d<m->A8 (AE bh ann kn (n+400) 29) ZY (ann 29 (BU ZY)) m ⟨1,[(1,true,li t),(2,true,.ptr 0 2 0 0),(5,true,i k)],⟨[],[(2,0,.box (AC b))]⟩⟩ =
  if A1 (t.drop k) (b.winds.drop k)=true then some (.exit 0,⟨1,fr,⟨[],[(2,0,.box (AC b))]⟩⟩) else some (.ret,⟨1,[(4,true,.bool false)],⟨[],[]⟩⟩)
 |0,k,hk=>by
  have:k=t.length:=by omega
  subst this;refine⟨?fr,fun n m hm=>?g3⟩;case g3=>
   obtain⟨m,rfl⟩:=qNz m (by omega)
   have:b.winds.drop t.length=[]:=by rw[hl];exact bw
   rw[bw,this,AB]
   simp[A1,AC]
   rfl
 |d+1,k,hk=>by
  have hk':k<t.length:=by omega
  have hk2:k<b.winds.length:=by omega
  have hw:=BM (k:=k) (by omega);obtain⟨fr,ih⟩:=qW b t hl h100 h4 d (k+1) (by omega);have q:=fun n=>BHH n b.winds[k] t[k] (h4 _ (bb hk2));rw[bk hk',bk hk2];simp only[A1];by_cases h:t[k]∈b.winds[k]
  ·simp only[h,decide_true,bc]at q|-;refine⟨fr,fun n m hm=>?_⟩;obtain⟨m,rfl⟩:=qNz m (by omega);have ih:=ih n m (by omega);rw[AB];simp only[AC]at ih|-;simp at ih;simp[hk',hk2,hw,AJ,AV,q,ih]
  ·simp only[h,decide_false,bz]at q|-;refine⟨[],fun n m hm=>?_⟩;obtain⟨m,rfl⟩:=qNz m (by omega);rw[AB];simp[AC,hk',hk2,AJ,AV,q]
theorem AIY(n:Nat)(b:AK)(hb:Valid b)(t:List Int):AY bh kn (AE bh ann kn (n+600)) 27 [.agg (AC b),li t]=some (.bool (A1 t b.winds)):=by
 rw[AN rfl,AM Tryz.func27 b27 rfl (by simp[AC,AJ,AV,AQ])];have hla:=hb.la;have hwi:=hb.wi;by_cases h:t.length=b.winds.length
 ·obtain⟨fr,q⟩:=qW b t h (by omega) (fun l hl=>by have:=hb.wl l hl;omega) t.length 0 (by omega);have q:=fun n m=>q n (m+110) (by omega);rw[bx,bx]at q;generalize A1 t b.winds=z at q|-;simp only[AC]at q|-;cases z<;>(simp at q;simp[c27,AF,h,q])
 ·rw[ACJ h];have h':¬(t.length:Int)=(b.winds.length:Int):=by omega
  simp[c27,AF,AC,h']
theorem yN(b:AK)(t:List Int)(hn:∀x∈b.notes,0<=x.1/\x.1<t.length)(hl:b.notes.length<=100):∀(d k:Nat),k+d=b.notes.length->∃fr,∀n m,d<m->A8 (AE bh ann kn (n+400) 33) TC (ann 33 (BU TC)) m ⟨1,[(1,true,li t),(2,true,.ptr 0 2 0 0),(5,true,i k)],⟨[],[(2,0,.box (AC b))]⟩⟩ =
  if (b.notes.drop k).all (J1 t)=true then some (.exit 0,⟨1,fr,⟨[],[(2,0,.box (AC b))]⟩⟩) else some (.ret,⟨1,[(4,true,.bool false)],⟨[],[]⟩⟩)
 |0,k,hk=>by
  have:k=b.notes.length:=by omega
  subst this;refine⟨?fr,fun n m hm=>?g3⟩;case g3=>
   obtain⟨m,rfl⟩:=qNz m (by omega)
   rw[bw,AB]
   simp[AC]
   rfl
 |d+1,k,hk=>by
  have hk':k<b.notes.length:=by omega
  have hw:=BM (k:=k) (by omega);obtain⟨fr,ih⟩:=yN b t hn hl d (k+1) (by omega);obtain⟨h0,h1⟩:=hn _ (bb hk');rw[bk hk'];have h1':b.notes[k].1.toNat<t.length:=by omega
  have ha:atI t b.notes[k].1=t[b.notes[k].1.toNat]:=by unfold atI;rw[bj,bq (by omega)];rfl
  have hr:J1 t b.notes[k]=decide (t[b.notes[k].1.toNat]=b.notes[k].2):=by unfold J1;rw[ha]
  simp only[List.all_cons,hr];by_cases h2:t[b.notes[k].1.toNat]=b.notes[k].2
  ·simp only[h2,decide_true,bc];refine⟨fr,fun n m hm=>?_⟩;obtain⟨m,rfl⟩:=qNz m (by omega);have ih:=ih n m (by omega);rw[AB];simp only[AC]at ih|-;simp at ih;simp[hk',hw,AJ,AQ,h0,h1,h1',h2,ih]
  ·simp only[h2,decide_false,bz];refine⟨[],fun n m hm=>?_⟩;obtain⟨m,rfl⟩:=qNz m (by omega);rw[AB];simp[AC,hk',AJ,AQ,h0,h1,h1',h2]
theorem AN4(n:Nat)(b:AK)(hb:Valid b)(t:List Int):AY bh kn (AE bh ann kn (n+800)) 102 [.agg (AC b),li t]=some (.bool (C0 b t)):=by
 rw[AN rfl,AM Tryz.func102 BER rfl (by simp[AC,AJ,AV,AQ])];have q1:=fun n=>AIY n b hb t;have hno:=hb.no;unfold C0;by_cases h:A1 t b.winds=true
 ·rw[h]at q1;obtain⟨fr,q⟩:=yN b t (Valid.notes' hb (CP h)) (by have:=hb.no;omega) b.notes.length 0 (by omega);have q:=fun n m=>q n (m+110) (by omega);rw[bx]at q;rw[h];generalize b.notes.all (J1 t)=z at q|-;simp only[AC]at q q1|-;cases z<;>(simp at q;simp[ASO,AF,AJ,AV,AQ,q1,q])
 ·have h:A1 t b.winds=false:=by simpa using h
  rw[h]at q1;simp only[AC]at q1|-;simp[ASO,AF,AJ,AV,AQ,q1,h]
end Go.Proofs.Tryz.Op
namespace Go.Wind
def lC(b:AK)(s:Int×Int)(w:Int):Nat->Nat->Bool
 |0,_=>false
 |d+1,j=>(b.breaks.any fun k=>decide (k=DG s w ((j:Int)+1)))||lC b s w d (j+1)
theorem yO(b:AK)(s:Int×Int)(w:Int):∀(d j:Nat),lC b s w d j=(bg d).any fun i=>b.breaks.any fun k=>decide (k=DG s w (((j+i:Nat):Int)+1))
 |0,_=>rfl
 |d+1,j=>by rw[lC,yO b s w d (j+1),List.range_succ_eq_map,List.any_cons,List.any_map];congr 1;congr 1;funext i;simp only[Function.comp];rw[show j+1+i=j+(i+1) by omega]
theorem A9E(b:AK)(s:Int×Int)(f w:Int):wN b s f w=(decide ((f+2) % 4=w)||lC b s w b.reach.toNat 0):=by unfold wN;rw[yO];simp
end Go.Wind
namespace Go.Proofs.Tryz.Op
theorem eqS(a1 a2 b1 b2:Int)(h1:KN a1)(h2:KN a2)(g1:KN b1)(g2:KN b2):X5 bh 59 [i a1,i a2] [i b1,i b2]=some (decide (a1=b1)&&decide (a2=b2)):=by
 have kl:∀a b:Int,KN a->KN b->Program.keyLits bh 16 59 [.int .i64 a,.int .i64 b]=some [.int .i64 a,.int .i64 b]:=fun a b ha hb=>by unfold Program.keyLits;simp[Tryz.underlying59,k3I (wfI ha),k3I (wfI hb)]
 have kt:(AFS bh 59&&Program.keyTypeAt bh 16 59&&!(bh.eqGuardType bh.depth 59))=true:=by kernel_rfl
 unfold X5;simp[D3,kl _ _ h1 h2,kl _ _ g1 g2];refine⟨⟨by simpa using kt,by simp[CS]⟩,?_⟩;simp only[LA,Bool.and_true];congr 1
theorem qX(b:AK)(hbr:∀k∈b.breaks,0<=k.1/\k.1<=100/\0<=k.2/\k.2<=100)(hl:b.breaks.length<=100)(x:Int×Int)(hx:-1000<=x.1/\x.1<=1000/\-1000<=x.2/\x.2<=1000)(w:Int)(j γ c:Nat):∀(d k:Nat),k+d=b.breaks.length->∀n m,d<m->A8 (AE bh ann kn (n+100) 63) TD (ann 63 (BU TD)) m ⟨c,[(3,true,i w),(4,true,.ptr 0 4 0 0),(9,true,.ptr 0 9 γ 0),(10,true,i j),(11,true,i k)],⟨[],[(4,0,.box (AC b)),(9,γ,.box (AQ x))]⟩⟩ =
  if ((b.breaks.drop k).any fun q=>decide (q=x))=true then some (.ret,⟨c,[(8,true,.bool true)],⟨[],[]⟩⟩)
  else some (.exit 3,⟨c,[(53,true,.bool false),(52,true,i b.breaks.length),(51,true,.list false (b.breaks.map AQ)),(50,true,.ptr 0 4 0 7),(49,true,i b.breaks.length),(3,true,i w),(4,true,.ptr 0 4 0 0),(9,true,.ptr 0 9 γ 0),(10,true,i j),(11,true,i b.breaks.length)],⟨[],[(4,0,.box (AC b)),(9,γ,.box (AQ x))]⟩⟩)
 |0,k,hk,n,m+1,hm=>by
  have:k=b.breaks.length:=by omega
  subst this;rw[bw,AB];simp[AC,AQ]
 |d+1,k,hk,n,m+1,hm=>by
  have hk':k<b.breaks.length:=by omega
  have hw:=BM (k:=k) (by omega);have ih:=qX b hbr hl x hx w j γ c d (k+1) (by omega) n m (by omega);obtain⟨g1,g2,g3,g4⟩:=hbr _ (bb hk');obtain⟨x1,x2,x3,x4⟩:=hx;have he:=eqS b.breaks[k].1 b.breaks[k].2 x.1 x.2 ⟨by omega,by omega⟩ ⟨by omega,by omega⟩ ⟨by omega,by omega⟩ ⟨by omega,by omega⟩;rw[bk hk',List.any_cons];have hq:decide (b.breaks[k]=x)=(decide (b.breaks[k].1=x.1)&&decide (b.breaks[k].2=x.2)):=by rw[Bool.eq_iff_iff];simp[Prod.ext_iff]
  rw[<-hq]at he;generalize decide (b.breaks[k]=x)=z at he|-;rw[AB];simp only[AC,AQ]at ih he|-;cases z with
  |true=>simp[hk',AQ,he]
  |false=>
   simp only[Bool.false_or]
   simp at ih
   simp[hk',hw,AQ,he,ih]
theorem ACE(s:Int×Int)(w:Int)(hw:0<=w/\w<=3)(j:Nat):DG s w ((j:Int)+1)=if w=0 then((DG s w j).1-1,(DG s w j).2) else if w=1 then((DG s w j).1,(DG s w j).2+1) else if w=2 then((DG s w j).1+1,(DG s w j).2) else((DG s w j).1,(DG s w j).2-1):=by
 have:w=0\/w=1\/w=2\/w=3:=by omega
 unfold DG;rcases this with rfl|rfl|rfl|rfl<;>simp<;>omega
theorem yP(s:Int×Int)(hs:0<=s.1/\s.1<=100/\0<=s.2/\s.2<=100)(w:Int)(j:Int)(hj:0<=j/\j<=100):-1000<=(DG s w j).1/\(DG s w j).1<=1000/\-1000<=(DG s w j).2/\(DG s w j).2<=1000:=by unfold DG;split<;>(try split)<;>(try split)<;>(try split)<;>(try simp only)<;>omega
theorem yQ(b:AK)(hb:Valid b)(hbr:∀k∈b.breaks,0<=k.1/\k.1<=100/\0<=k.2/\k.2<=100)(s:Int×Int)(hs:0<=s.1/\s.1<=100/\0<=s.2/\s.2<=100)(w:Int)(hw:0<=w/\w<=3)(γ c:Nat)(hγ:γ<c):∀(d j:Nat),j+d=b.reach.toNat->∃fr,∀n m,d<m->A8 (AE bh ann kn (n+300) 63) ZZ (ann 63 (BU ZZ)) m ⟨c,[(3,true,i w),(4,true,.ptr 0 4 0 0),(9,true,.ptr 0 9 γ 0),(10,true,i j)],⟨[],[(4,0,.box (AC b)),(9,γ,.box (AQ (DG s w j)))]⟩⟩ =
  if lC b s w d j=true then some (.ret,⟨c,[(8,true,.bool true)],⟨[],[]⟩⟩) else some (.exit 0,⟨c,fr,⟨[],[(4,0,.box (AC b)),(9,γ,.box (AQ (DG s w b.reach.toNat)))]⟩⟩)
 |0,j,hd=>by
  have hre:=hb.re;have h1:j=b.reach.toNat:=by omega
  have h2:b.reach=(j:Int):=by omega
  rw[<-h1];refine⟨?fr,fun n m hm=>?g2⟩;case g2=>
   obtain⟨m,rfl⟩:=qNz m (by omega)
   rw[AB]
   simp[AC,AQ,h2,lC]
   rfl
 |d+1,j,hd=>by
  have hre:=hb.re;have hbk:=hb.br;have hj:(j:Int)<b.reach:=by omega
  have hw1:=BM (k:=j) (by omega);have x0:=yP s hs w j (by omega);have x1:=yP s hs w ((j:Int)+1) (by omega);have q:=qX b hbr (by omega) (DG s w ((j:Int)+1)) x1 w j γ c b.breaks.length 0 (by omega);have q:=fun n m=>q n (m+150) (by omega);rw[bx]at q;obtain⟨fr,ih⟩:=yQ b hb hbr s hs w hw γ c hγ d (j+1) (by omega);have e:DG s w ((j+1:Nat):Int)=DG s w ((j:Int)+1):=by rw[Int.natCast_succ]
  rw[e]at ih;have hn:=ACE s w hw j;refine⟨fr,fun n m hm=>?_⟩;obtain⟨m,rfl⟩:=qNz m (by omega);have ih:=ih n m (by omega);rw[show lC b s w (d+1) j=((b.breaks.any fun k=>decide (k=DG s w ((j:Int)+1)))||lC b s w d (j+1)) from rfl];generalize DG s w ((j:Int)+1)=X' at *;generalize DG s w (j:Int)=X at *;generalize DG s w (b.reach.toNat:Int)=X2 at *;generalize (b.breaks.any fun k=>decide (k=X'))=z at q|-;have wa:IntKind.i64.wrap (X.1-1)=X.1-1:=AO (by omega) (by omega);have wb:IntKind.i64.wrap (X.1+1)=X.1+1:=AO (by omega) (by omega);have wc:IntKind.i64.wrap (X.2-1)=X.2-1:=AO (by omega) (by omega);have wd:IntKind.i64.wrap (X.2+1)=X.2+1:=AO (by omega) (by omega);have hw4:w=0\/w=1\/w=2\/w=3:=by omega
  rw[AB];simp only[AC]at q ih|-;rcases hw4 with rfl|rfl|rfl|rfl<;>(simp at hn;subst hn;cases z<;>(simp[AQ]at q ih;simp[hj,hw1,hγ,AQ,wa,wb,wc,wd,q,ih]))
theorem AW2(n:Nat)(b:AK)(hb:Valid b)(s:Int×Int)(hs:0<=s.1/\s.1<=100/\0<=s.2/\s.2<=100)(f w:Int)(hf:0<=f/\f<=3)(hw:0<=w/\w<=3):AY bh kn (AE bh ann kn (n+500)) 76 [.agg (AC b),.agg (AQ s),i f,i w]=some (.bool (wN b s f w)):=by
 rw[AN rfl,AM Tryz.func76 b76 rfl (by simp[AC,AJ,AV,AQ])];have hre:=hb.re;obtain⟨fr,q⟩:=yQ b hb (Valid.br' hb) s hs w hw 2 3 (by omega) b.reach.toNat 0 (by omega);have q:=fun n m=>q n (m+150) (by omega);have e0:DG s w ((0:Nat):Int)=s:=by unfold DG;split<;>(try split)<;>(try split)<;>(try split)<;>simp
 rw[e0]at q;have hwf:IntKind.i64.wrap (f+2)=f+2:=AO (by omega) (by omega);have hm:(f+2).tmod 4=(f+2) % 4:=Int.tmod_eq_emod_of_nonneg (by omega);rw[A9E];generalize lC b s w b.reach.toNat 0=z at q|-;generalize DG s w (b.reach.toNat:Int)=X2 at q;simp only[AC]at q|-;by_cases h:(f+2) % 4=w
 ·simp[c76,AF,hwf,hm,h]
 ·cases z<;>(simp[AQ]at q;simp[c76,AF,AQ,hwf,hm,h,q])
end Go.Proofs.Tryz.Op
namespace Go.Wind
def I8(b:AK)(p:List (List Int))(t:List Int)(r q h:Nat):eL:=H9 (fun h=>wN b (r,q) (CW p h r) (t.getD h 0)) (MO b p r) h
def EC(b:AK)(p:List (List Int))(t:List Int)(r n:Nat):List eL:=(bg n).map fun q=>I8 b p t r q t.length
def NX(b:AK)(p:List (List Int))(t:List Int)(n:Nat):List (List eL):=(bg n).map fun r=>EC b p t r b.places.toNat
theorem qY(b:AK)(p:List (List Int))(t:List Int)(r n:Nat):EC b p t r (n+1)=EC b p t r n++[I8 b p t r n t.length]:=by simp[EC,List.range_succ]
theorem ACF(b:AK)(p:List (List Int))(t:List Int)(n:Nat):NX b p t (n+1)=NX b p t n++[EC b p t n b.places.toNat]:=by simp[NX,List.range_succ]
end Go.Wind
namespace Go.Proofs.Tryz.Op
theorem AIZ(b:AK)(hb:Valid b)(p:List (List Int))(hp:FC b p)(t:List Int)(ht:A1 t b.winds=true)(r q:Nat)(hr:(r:Int)<b.rows)(hq:(q:Int)<b.places)(γ7 γ9 γ:Nat)(A B:List (List V)):∀(d h c:Nat),h+d=t.length->γ<c->∀n m,d<m->A8 (AE bh ann kn (n+800) 89) TE (ann 89 (BU TE)) m ⟨c,[(1,true,FV p),(2,true,li t),(3,true,.ptr 0 3 0 0),(7,true,pv 87 γ7 A),(8,true,i r),(9,true,pv 83 γ9 B),(10,true,i q),(11,true,.ptr 0 11 γ 0),(12,true,i h)],⟨[],(3,0,.box (AC b))::(11,γ,.box (F6 (I8 b p t r q h)))::(pl 83 γ9 139 B++pl 87 γ7 137 A)⟩⟩ =
  some (.exit 4,⟨c,[(30,true,.bool false),(29,true,i t.length),(28,true,li t),(27,true,i t.length),(1,true,FV p),(2,true,li t),(3,true,.ptr 0 3 0 0),(7,true,pv 87 γ7 A),(8,true,i r),(9,true,pv 83 γ9 B),(10,true,i q),(11,true,.ptr 0 11 γ 0),(12,true,i t.length)],⟨[],(3,0,.box (AC b))::(11,γ,.box (F6 (I8 b p t r q t.length)))::(pl 83 γ9 139 B++pl 87 γ7 137 A)⟩⟩)
 |0,h,c,hd,hγ,n,m+1,hm=>by
  have:h=t.length:=by omega
  rw[<-this,AB];simp[AC,this,F6,KB,IP,HS]
 |d+1,h,c,hd,hγ,n,m+1,hm=>by
  have hla:=hb.la;have hro:=hb.ro;have hpc:=hb.pl;have hlw:=CP ht;have hwi:=hb.wi;have hsu:=hb.su;have hpn:=hp.len;have hw:=BM (k:=h) (by omega);have hh:h<p.length:=by omega
  have ht':h<t.length:=by omega
  have hs':h<b.sun.length:=by omega
  have hpe:p.getD h []=p[h]:=by rw[bj,bq hh];rfl
  have hr2:r<p[h].length:=by have:=hp.row h hh;rw[hpe]at this;omega
  have hx:CW p h r=p[h][r]:=by unfold CW;rw[hpe,bj,bq hr2];rfl
  have htd:t.getD h 0=t[h]:=by rw[bj,bq ht'];rfl
  have hsd:b.sun.getD h 0=b.sun[h]:=by rw[bj,bq hs'];rfl
  have hdir:=hp.dir h r hh (by rw[hpe];exact hr2);have htdir:=Q2 hb ht ht';rw[hx,DI]at hdir;rw[htd,DI]at htdir;have qs:=fun n=>AW2 n b hb (r,q) (by simp only;omega) p[h][r] t[h] hdir htdir;have ih:=AIZ b hb p hp t ht r q hr hq γ7 γ9 γ A B d (h+1) c (by omega) hγ n m (by omega);have b1:=AXC (fun h=>wN b (r,q) (CW p h r) (t.getD h 0)) (MO b p r) h;have hlit:MO b p r h=decide (p[h][r]=b.sun[h]):=by unfold MO;rw[hx,hsd]
  have hdue:I8 b p t r q (h+1)=⟨(I8 b p t r q h).sun+(if MO b p r h=true then 1 else 0),(I8 b p t r q h).calm+(if wN b (r,q) p[h][r] t[h]=true then 1 else 0),(I8 b p t r q h).good+(if (MO b p r h&&wN b (r,q) p[h][r] t[h])=true then 1 else 0)⟩:=by
   simp only[I8,H9,lN];have g:∀(f:Nat->Bool),((lN f h+if f h=true then 1 else 0:Nat):Int)=((lN f h:Nat):Int)+(if f h=true then 1 else 0):=fun f=>by split<;>simp
   rw[g,g (fun h=>wN b (r,q) (CW p h r) (t.getD h 0)),g (fun h=>MO b p r h&&wN b (r,q) (CW p h r) (t.getD h 0)),hx,htd]
  change 0<=(I8 b p t r q h).sun/\(I8 b p t r q h).sun<=h/\0<=(I8 b p t r q h).calm/\(I8 b p t r q h).calm<=h/\0<=(I8 b p t r q h).good/\(I8 b p t r q h).good<=h at b1;have w1:IntKind.i64.wrap ((I8 b p t r q h).sun+1)=(I8 b p t r q h).sun+1:=AO (by omega) (by omega);have w2:IntKind.i64.wrap ((I8 b p t r q h).calm+1)=(I8 b p t r q h).calm+1:=AO (by omega) (by omega);have w3:IntKind.i64.wrap ((I8 b p t r q h).good+1)=(I8 b p t r q h).good+1:=AO (by omega) (by omega);rw[hdue,hlit]at ih;generalize I8 b p t r q t.length=FF at ih|-;generalize I8 b p t r q h=D at *;generalize e1:decide (p[h][r]=b.sun[h])=z1 at ih;generalize wN b (r,q) p[h][r] t[h]=z2 at ih qs;rw[AB];simp only[AC,AQ]at ih qs|-;cases z1<;>cases z2<;>(simp[F6]at ih;simp[hw,hh,ht',hs',hr2,AV,AJ,F6,e1,qs,w1,w2,w3,hγ,KB,IP,HS,ih])
theorem A9F{k:Nat}{x:eL}(h:k<=10000):BW bh 139 k [F6 x]=true:=by rw[BQ (by simp) (by simp)];simp[maxLen,F6];omega
theorem AW3{k:Nat}{v:V}(h:k<=10000):BW bh 137 k [[v]]=true:=by rw[BQ (by simp) (by simp)];simp[maxLen];omega
theorem ARI(b:AK)(hb:Valid b)(p:List (List Int))(hp:FC b p)(t:List Int)(ht:A1 t b.winds=true)(r:Nat)(hr:(r:Int)<b.rows)(γ7:Nat)(A:List (List V)):∀(d q c γ:Nat),q+d=b.places.toNat->∃c' γ',∀n m,d<m->A8 (AE bh ann kn (n+1000) 89) Z0 (ann 89 (BU Z0)) m ⟨c,[(1,true,FV p),(2,true,li t),(3,true,.ptr 0 3 0 0),(7,true,pv 87 γ7 A),(8,true,i r),(9,true,pv 83 γ ((EC b p t r q).map F6)),(10,true,i q)],⟨[],(3,0,.box (AC b))::(pl 83 γ 139 ((EC b p t r q).map F6)++pl 87 γ7 137 A)⟩⟩ =
  some (.exit 2,⟨c',[(24,true,.bool false),(23,true,i b.places),(22,true,.ptr 0 3 0 2),(21,true,i b.places),(1,true,FV p),(2,true,li t),(3,true,.ptr 0 3 0 0),(7,true,pv 87 γ7 A),(8,true,i r),(9,true,pv 83 γ' ((EC b p t r b.places.toNat).map F6)),(10,true,i b.places)],⟨[],(3,0,.box (AC b))::(pl 83 γ' 139 ((EC b p t r b.places.toNat).map F6)++pl 87 γ7 137 A)⟩⟩)
 |0,q,c,γ,hd=>by
  have hpc:=hb.pl;have h1:q=b.places.toNat:=by omega
  have h2:b.places=(q:Int):=by omega
  rw[<-h1];refine⟨c,γ,fun n m hm=>?_⟩;obtain⟨m,rfl⟩:=qNz m (by omega);rw[AB];simp[AC,h2,KB,IP,HS]
 |d+1,q,c,γ,hd=>by
  have hpc:=hb.pl;have hla:=hb.la;have hlw:=CP ht;have hwi:=hb.wi;have hq:(q:Int)<b.places:=by omega
  have hw:=BM (k:=q) (by omega);have qq:=AIZ b hb p hp t ht r q hr hq γ7 γ c A ((EC b p t r q).map F6) t.length 0 (c+1) (by omega) (by omega);have qq:=fun n m=>qq n (m+100) (by omega);have h0:I8 b p t r q 0=⟨0,0,0⟩:=rfl;rw[h0]at qq;obtain⟨c',γ',ih⟩:=ARI b hb p hp t ht r hr γ7 A d (q+1) (c+2) (c+1) (by omega);rw[qY]at ih;have happ:=A9F (k:=(EC b p t r q).length) (x:=I8 b p t r q t.length) (by simp[EC];omega);refine⟨c',γ',fun n m hm=>?_⟩;obtain⟨m,rfl⟩:=qNz m (by omega);have ih:=ih n m (by omega);generalize I8 b p t r q t.length=Y at *;generalize EC b p t r b.places.toNat=RR at *;generalize EC b p t r q=R at *;rw[AB];simp only[AC]at qq ih|-;simp[F6]at qq ih happ;simp[hq,hw,F6,qq,happ,KB,IP,HS,ih]
theorem ARJ(b:AK)(hb:Valid b)(p:List (List Int))(hp:FC b p)(t:List Int)(ht:A1 t b.winds=true):∀(d r c γ:Nat),r+d=b.rows.toNat->∃fr c' γ',BG fr 7=some (true,pv 87 γ' ((NX b p t b.rows.toNat).map MH))/\∀n m,d<m->A8 (AE bh ann kn (n+1200) 89) Z1 (ann 89 (BU Z1)) m ⟨c,[(1,true,FV p),(2,true,li t),(3,true,.ptr 0 3 0 0),(7,true,pv 87 γ ((NX b p t r).map MH)),(8,true,i r)],⟨[],(3,0,.box (AC b))::pl 87 γ 137 ((NX b p t r).map MH)⟩⟩ =
  some (.exit 0,⟨c',fr,⟨[],(3,0,.box (AC b))::pl 87 γ' 137 ((NX b p t b.rows.toNat).map MH)⟩⟩)
 |0,r,c,γ,hd=>by
  have hro:=hb.ro;have h1:r=b.rows.toNat:=by omega
  have h2:b.rows=(r:Int):=by omega
  rw[<-h1];refine⟨?fr,c,γ,?g1,fun n m hm=>?g2⟩;case g2=>
   obtain⟨m,rfl⟩:=qNz m (by omega)
   rw[AB]
   simp[AC,h2]
   rfl
  case g1=>simp
 |d+1,r,c,γ,hd=>by
  have hro:=hb.ro;have hpc:=hb.pl;have hr:(r:Int)<b.rows:=by omega
  have hw:=BM (k:=r) (by omega);obtain⟨c1,γ1,q⟩:=ARI b hb p hp t ht r hr γ ((NX b p t r).map MH) b.places.toNat 0 c 0 (by omega);have q:=fun n m=>q n (m+100) (by omega);have h0:EC b p t r 0=[]:=rfl;rw[h0]at q;obtain⟨fr,c',γ',e1,ih⟩:=ARJ b hb p hp t ht d (r+1) (c1+1) c1 (by omega);rw[ACF]at ih;have happ:=AW3 (k:=(NX b p t r).length) (v:=.list false ((EC b p t r b.places.toNat).map F6)) (by simp[NX];omega);have hne:EC b p t r b.places.toNat≠[]:=by intro e;have:=congrArg List.length e;simp[EC]at this;omega
  have hsl:sl ((EC b p t r b.places.toNat).map F6)=.list false ((EC b p t r b.places.toNat).map F6):=by obtain⟨x,L,e⟩:=List.exists_cons_of_ne_nil hne;rw[e];rfl
  refine⟨fr,c',γ',e1,fun n m hm=>?_⟩;obtain⟨m,rfl⟩:=qNz m (by omega);have ih:=ih n m (by omega);generalize NX b p t b.rows.toNat=FF at ih|-;generalize EC b p t r b.places.toNat=RR at ih q happ hsl;have htl:∀o,E9 0 83 o (pl 87 γ 137 ((NX b p t r).map MH))=pl 87 γ 137 ((NX b p t r).map MH):=fun o=>WK (by decide) _ _ _ (by simp[MH,F6]);rw[AB];simp only[AC]at ih q|-;simp[MH]at ih q happ;simp[hr,hw,MH,q,ih,happ,htl,hsl,KB,HS]
theorem AI0(n:Nat)(b:AK)(hb:Valid b)(p:List (List Int))(hp:FC b p)(t:List Int)(ht:A1 t b.winds=true):AY bh kn (AE bh ann kn (n+1400)) 28 [.agg (AC b),FV p,li t]=some (sl ((NX b p t b.rows.toNat).map MH)):=by rw[AN rfl,AM Tryz.func28 b28 rfl (by simp[AC,AJ,AV,AQ])];have hro:=hb.ro;obtain⟨fr,c',γ',e1,q⟩:=ARJ b hb p hp t ht b.rows.toNat 0 1 0 (by omega);have q:=fun n m=>q n (m+100) (by omega);have h0:NX b p t 0=[]:=rfl;rw[h0]at q;generalize NX b p t b.rows.toNat=FF at *;simp only[AC]at q|-;simp at q;simp[c28,AF,q,e1];simp[MH,F6]
theorem AN5{b:AK}(hb:Valid b){p:List (List Int)}(hp:FC b p){t:List Int}(ht:A1 t b.winds=true):NX b p t b.rows.toNat=U1 b p t b.rows.toNat:=by unfold NX U1;apply bf;intro r hr;have hr:=List.mem_range.1 hr;unfold EC lE;apply bf;intro q _;exact(AFN hb hp ht (by omega) q).symm
end Go.Proofs.Tryz.Op
