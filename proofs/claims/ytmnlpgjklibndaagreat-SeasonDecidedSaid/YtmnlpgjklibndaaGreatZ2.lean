/- The truths, one after another: what is gone through, and who goes through it. No condition. -/
import Derived.Test.YtmnlpgjklibndaaGreatZ1
open Go.Proofs.Tryz renaming prog->cg
open List renaming replicate->bj,cons_append->bq,getElem?_eq_getElem->bw,getElem_mem->bx,map_cons->bc,mem_or_eq_of_mem_set->bf,drop_eq_getElem_cons->bg,getElem?_take_of_lt->bh,map_set->bn,take_of_length_le->bp,getElem_append->br,map->bt,flatMap_cons->ck,map_nil->cq,mem_map->cx,cons->cz
open Nat renaming add_assoc->bz,reduceAdd->cj
set_option maxRecDepth 100000
set_option linter.unusedSimpArgs false
open Go Go.Pg Go.Proofs
namespace Go.Proofs.Tryz.Op
def U6(b:A5):Nat->Nat->AY->List AF->List AY->List (List AF×List AY)
 |0,k,s,ls,ss=>if b.counts.all (countOne s.money k)=true then[(ls,ss)] else[]
 | d+1,k,s,ls,ss=>if b.counts.all (countOne s.money k)=true then(match b.lines[k]? with
  |some l=>(readingsP b.chairs l).flatMap fun x=>if (CA b.coin s k x).2=true then U6 b d (k+1) (CA b.coin s k x).1 (ls++[x]) (ss++[(CA b.coin s k x).1]) else[]
  | none=>[]) else[]
def GO(b:A5):List (List AF×List AY):=U6 b b.lines.length 0 (BQ b) [] [BQ b]
structure Pre(b:A5)(k:Nat)(ls:List AF)(ss:List AY):Prop where
 ll:ls.length=k
 sl:ss.length=k+1
 met:∀j (h:j<ss.length),Met b j ss[j]/\ss[j].bd j
 rd:∀j (h:j<ls.length) (h2:j<b.lines.length),ls[j]∈readingsP b.chairs b.lines[j]
theorem ABV{b:A5}(h:RN b):Pre b 0 [] [BQ b] where
 ll:=rfl
 sl:=rfl
 met:=by
  intro j hj;have:j=0:=by simpa using hj
  subst this;exact⟨fM b,pZ h⟩
 rd:=by intro j h;simp at h
theorem AIF{b:A5}{k:Nat}{ls:List AF}{ss:List AY}(hb:RN b)(h:Pre b k ls ss){x:AF}(hk:k<b.lines.length)(hx:x∈readingsP b.chairs b.lines[k])(hs:k<ss.length)(h2:(CA b.coin ss[k] k x).2=true) :
  Pre b (k+1) (ls++[x]) (ss++[(CA b.coin ss[k] k x).1]) where
 ll:=by simp[h.ll]
 sl:=by simp[h.sl]
 met:=by
  intro j hj;rw[br];have hl:=h.sl;split
  ·rename_i h1;exact h.met j h1
  ·rename_i h1;have:j=k+1:=by simp at hj;omega
   subst this;obtain⟨⟨r1,r2⟩,_⟩:=AIE hb _ (bx hk) x hx;simp only[hl,Nat.sub_self,List.getElem_cons_zero];exact⟨pY (h.met k hs).1 r1 r2 h2,jR (h.met k hs).2 hb.co1 hb.co2⟩
 rd:=by
  intro j hj hj2;rw[br];have hl:=h.ll;split
  ·rename_i h1;exact h.rd j h1 hj2
  ·rename_i h1;have:j=k:=by simp at hj;omega
   subst this;simpa using hx
structure Lt(b:A5)(γ0 g2 g3 g4 g5 g9 H4:Nat)(ls:List AF)(ss:List AY)(L:AA):Prop where
 p2:L.get 2=some (g2,.box [.yld 0 A9 γ0])
 p3:L.get 3=some (g3,.box [.vec 1 9 g9 b.lines.length])
 p4:L.get 4=some (g4,.box [.vec 1 14 H4 (b.lines.length+1)])
 p5:L.get 5=some (g5,.box [.fn 170 [] [.ref (AE b),.ptr 1 4 g4 0,.ptr 1 3 g3 0,.ptr 1 2 g2 0,.ptr 1 5 g5 0]])
 p9:L.get 9=some (g9,.vec 96 (ls.map AB))
 p14:L.get 14=some (H4,.vec 162 (ss.map AX))
 st:∀t:St,2<=t.up.length->AQ t L=L
 b9:g9<γ0+7
 b14:H4<γ0+7
 ok:∀x∈ss,x.ok
theorem bN{rs:List AA}{loc:AA}(h:QV rs)(hl:∀t:St,rs.length+1<=t.up.length->AQ t loc=loc):QV (rs++[loc]):=by
 intro t ht;have ht':rs.length+1+1<=t.up.length:=by simpa using ht
 simp only[List.map_append,bc,cq];rw[h t (by omega),hl t (by omega)]
def JI{α:Type}(b:A5)(Lv:α->AA->Prop)(step:α->List AF->List AY->α)(γ0 N0:Nat):Prop :=
 ∀(a:α) (L L1:AA) (rest:List AA) (loc:AA) (c:Nat) (fr:Fr) (ls:List AF) (ss:List AY) (g9 H4:Nat),Lv a L->γ0+1<c->Pre b b.lines.length ls ss->L1.get 9=some (g9,.vec 96 (ls.map AB))->L1.get 14=some (H4,.vec 162 (ss.map AX))->QV (L1::(rest++[loc])) ->
  ∃L' c',Lv (step a ls ss) L'/\c<=c'/\∀n,iH (AH cg ann kn (n+N0)) 0 A9 γ0 [.vec 1 9 g9 b.lines.length,.vec 1 14 H4 (b.lines.length+1)] ⟨c,fr,⟨L::L1::rest,loc⟩⟩=some (.bool true,⟨c',fr,⟨L'::L1::rest,loc⟩⟩)
section
variable {α:Type}{b:A5}{Lv:α->AA->Prop}{step:α->List AF->List AY->α}{γ0 N0:Nat}
def MF(step:α->List AF->List AY->α)(a:α)(l:List (List AF×List AY)):α:=l.foldl (fun a t=>step a t.1 t.2) a
def BAH(b:A5)(Lv:α->AA->Prop)(step:α->List AF->List AY->α)(γ0 g2 g3 g4 g5 g9 H4 M d k:Nat):Prop :=
 ∀(pls:List AF) (pss:List AY) (s:AY),Pre b k pls pss->pss[k]? = some s->∀(a:α) (L L1:AA) (rs:List AA) (c dd:Nat) (fr:Fr) (ls:List AF) (ss:List AY),Lv a L->Lt b γ0 g2 g3 g4 g5 g9 H4 ls ss L1->QV (L1::rs)->γ0+7<c->ls.length=b.lines.length->ss.length=b.lines.length+1->ls.take k=pls->ss.take (k+1)=pss ->
  ∃L' L1' c' ls' ss',Lv (MF step a (U6 b d k s pls pss)) L'/\Lt b γ0 g2 g3 g4 g5 g9 H4 ls' ss' L1'/\c<=c'/\ls'.length=b.lines.length/\ss'.length=b.lines.length+1/\ls'.take k=pls/\ss'.take (k+1)=pss /\
   ∀n,jI cg (some dd) fr Tryz.f170.results.toList (AH cg ann kn (n+M) 68 yR ⟨c,AJ 0 [i k,.ref (AE b),.ptr 1 4 g4 0,.ptr 1 3 g3 0,.ptr 1 2 g2 0,.ptr 1 5 g5 0],⟨L::L1::rs,[]⟩⟩)=pA (some dd) fr c' (.bool true) (CW (L'::L1'::rs))
theorem qE(ls:List AF)(k:Nat)(x:AF):(ls.set k x).map AB=(ls.map AB).set k (AB x):=bn
theorem uY(ss:List AY)(k:Nat)(x:AY):(ss.set k x).map AX=(ss.map AX).set k (AX x):=bn
theorem EZ(t:St)(T:TypeId)(ls:List AF):BU t (.vec T (ls.map AB))=.vec T (ls.map AB):=by refine LZ fun e he v hv=>?_;obtain⟨x,_,rfl⟩:=cx.1 he;simp only[AB,List.mem_cons,List.not_mem_nil,or_false]at hv;rcases hv with rfl|rfl|rfl<;>rfl
theorem fN(t:St)(T:TypeId)(ss:List AY):BU t (.vec T (ss.map AX))=.vec T (ss.map AX):=by refine LZ fun e he v hv=>?_;obtain⟨x,_,rfl⟩:=cx.1 he;simp only[AX,List.mem_append,cx,List.mem_cons,List.not_mem_nil,or_false]at hv;rcases hv with⟨y,_,rfl⟩|⟨y,_,rfl⟩|rfl|rfl<;>rfl
theorem MG{β:Type}{l p:List β}{n:Nat}{x:β}(h:l.take n=p)(hl:n<l.length):(l.set n x).take (n+1)=p++[x]:=by rw[List.take_succ_eq_append_getElem (by simpa using hl),List.take_set_of_le (Nat.le_refl _),h];simp
theorem PW{β:Type}{l p:List β}{n:Nat}{x:β}(h:l.take (n+1)=p++[x])(hp:p.length=n):l.take n=p:=by
 have:l.take n=(l.take (n+1)).take n:=by rw[List.take_take];congr 1;omega
 rw[this,h,<-hp];simp
theorem fO{L1 L2:AA}{rs:List AA}(h:QV (L1::rs))(h2:∀t:St,2<=t.up.length->AQ t L2=L2):QV (L2::rs):=by intro t ht;have:=h t ht;simp only[bc,cz.injEq]at this|-;exact⟨h2 t (by simp at ht;omega),this.2⟩
theorem Lt.set{g2 g3 g4 g5 g9 H4:Nat}{ls:List AF}{ss:List AY}{L:AA}(h:Lt b γ0 g2 g3 g4 g5 g9 H4 ls ss L){k:Nat}(x:AF)(s:AY)(hs:s.ok) :
  Lt b γ0 g2 g3 g4 g5 g9 H4 (ls.set k x) (ss.set (k+1) s) ((14,H4,.vec 162 ((ss.map AX).set (k+1) (AX s)))::(9,g9,.vec 96 ((ls.map AB).set k (AB x)))::L) where
 p2:=by simpa using h.p2
 p3:=by simpa using h.p3
 p4:=by simpa using h.p4
 p5:=by simpa using h.p5
 p9:=by simp[bn]
 p14:=by simp[bn]
 st:=by intro t ht;rw[BJ,BJ,h.st t ht,<-qE,<-uY,EZ,fN]
 b9:=h.b9
 b14:=h.b14
 ok:=by
  intro y hy;rcases bf hy with hy|rfl
  ·exact h.ok y hy
  ·exact hs
theorem AWU(hb:RN b)(hlv:∀a L,Lv a L->∀t:St,1<=t.up.length->AQ t L=L)(g2 g3 g4 g5 g9 H4 W d k:Nat)(hkl:k<b.lines.length)(pls:List AF)(pss:List AY)(s:AY)(hp:Pre b k pls pss)(hsk:pss[k]? = some s)
  (hrec:BAH b Lv step γ0 g2 g3 g4 g5 g9 H4 (W+1000) d (k+1)) (rs:List AA) (xs:List AF) (hxs:xs=readingsP b.chairs b.lines[k]) :
  ∀(e j:Nat) (a:α) (L L1:AA) (c:Nat) (ls:List AF) (ss:List AY),j+e=xs.length->Lv a L->Lt b γ0 g2 g3 g4 g5 g9 H4 ls ss L1->QV (L1::rs)->γ0+7<c->ls.length=b.lines.length->ss.length=b.lines.length+1->ls.take k=pls->ss.take (k+1)=pss ->
  ∃L' L1' c' ls' ss',Lv (MF step a ((xs.drop j).flatMap fun x=>if (CA b.coin s k x).2=true then U6 b d (k+1) (CA b.coin s k x).1 (pls++[x]) (pss++[(CA b.coin s k x).1]) else[])) L'/\Lt b γ0 g2 g3 g4 g5 g9 H4 ls' ss' L1'/\c<=c'/\ls'.length=b.lines.length/\ss'.length=b.lines.length+1/\ls'.take k=pls/\ss'.take (k+1)=pss /\
   ∀n m,e<m->BN (AH cg ann kn (n+W+1053) 68) W1 (some ([0,1,2,3,5,34,35,36],[34])) m ⟨c,[(0,true,i k),(1,true,.ref (AE b)),(2,true,.ptr 1 4 g4 0),(3,true,.ptr 1 3 g3 0),(5,true,.ptr 1 5 g5 0),(34,true,sl (xs.map AB)),(35,true,i xs.length),(36,true,i j)],⟨L::L1::rs,[]⟩⟩ =
    some (.exit 0,⟨c',[(37,true,.bool false),(0,true,i k),(1,true,.ref (AE b)),(2,true,.ptr 1 4 g4 0),(3,true,.ptr 1 3 g3 0),(5,true,.ptr 1 5 g5 0),(34,true,sl (xs.map AB)),(35,true,i xs.length),(36,true,i xs.length)],⟨L'::L1'::rs,[]⟩⟩)
 |0,j,a,L,L1,c,ls,ss,hd,hL,hL1,hst,hc,hll,hsl,hpl,hps=>by
  have:j=xs.length:=by omega
  subst this;refine⟨L,L1,c,ls,ss,by simpa [MF]using hL,hL1,by omega,hll,hsl,hpl,hps,fun n m hm=>?_⟩;obtain⟨m,rfl⟩:=qNz m (by omega);simp[AD,AE]
 |e+1,j,a,L,L1,c,ls,ss,hd,hL,hL1,hst,hc,hll,hsl,hpl,hps=>by
  obtain⟨p2,p3,p4,p5,p9,p14,pst,b9,b14,pok⟩:=hL1;have hj:j<xs.length:=by omega
  have hm:=(hp.met k (by have:=hp.sl;omega));have hsk':pss[k]'(by have:=hp.sl;omega)=s:=by rw[bw (by have:=hp.sl;omega)]at hsk;exact Option.some.inj hsk
  rw[hsk']at hm;obtain⟨hm,hbd⟩:=hm;have hlen:xs.length<=100:=by rw[hxs];have:=EQ b.chairs b.lines[k] hb.ch4;omega
  have hw:IntKind.i64.wrap ((j:Int)+1)=(j:Int)+1:=AU (by omega) (by omega);have hl8:=hb.ln;have hwk:IntKind.i64.wrap ((k:Int)+1)=(k:Int)+1:=AU (by omega) (by omega);have hxm:xs[j]∈readingsP b.chairs b.lines[k]:=by rw[<-hxs];exact bx hj
  obtain⟨⟨x1,x2⟩,x3,x4⟩:=AIE hb _ (bx hkl) _ hxm;obtain⟨m0,m1,y0,y1⟩:=hbd;have q104:=fun n=>AWJ n b s k xs[j] hm.ok x1 x2 x3 x4 (by omega) (by omega) (by omega) (by omega) (by omega) (by omega) (by have:=hb.co1;omega) (by have:=hb.co2;omega);obtain⟨a0,a1,a2,a3,b0,b1,b2,b3,hcs⟩:=ED hm.ok;obtain⟨A0,A1,A2,A3,B0,B1,B2,B3,hcn⟩:=ED (TI b.coin s k xs[j] hm.ok);have hg:(bt AX ss)[k]? = some (AX s):=by
   have:ss[k]? = some s:=by rw[<-hsk,<-hps,bh (by omega)]
   simp[this]
  simp only[AE,AB,hcs,hcn]at q104 hg;have hki:(k:Int)<(b.lines.length:Int)+1:=by omega
  have nb10:Nat.beq 10 1=false:=rfl;have nb3:Nat.beq 3 1=false:=rfl;have hrs:∀t:St,rs.length+2<=t.up.length->rs.map (AQ t)=rs:=fun t h=>by have:=hst t (by simpa using h);simp only[bc,cz.injEq]at this;exact this.2
  cases hn:(CA b.coin s k xs[j]).2 with
  |false=>
   obtain⟨L',L1',c',ls',ss',i1,i2,i3,i4,i5,i6,i7,ih⟩:=AWU hb hlv g2 g3 g4 g5 g9 H4 W d k hkl pls pss s hp hsk hrec rs xs hxs e (j+1) a L L1 (c+2) ls ss (by omega) hL ⟨p2,p3,p4,p5,p9,p14,pst,b9,b14,pok⟩ hst (by omega) hll hsl hpl hps
   refine⟨L',L1',c',ls',ss',?_,i2,by omega,i4,i5,i6,i7,fun n m hm=>?_⟩
   ·rw[bg hj,ck];simpa [hn]using i1
   obtain⟨m,rfl⟩:=qNz m (by omega)
   have ih:=ih n m (by omega)
   rw[AD]
   simp only[hn]at q104
   simp only[AE]at ih|-
   try simp at ih
   simp[hj,hw,hwk,AB,AM,q104,p2,p3,p4,p9,p14,hg,hki,hsl,ih,nb10,nb3,DE]
   done
  |true=>
   simp only[hn]at q104
   have hg9:∀x,g9<c+1+1+x:=fun x=>by omega
   have hg14:∀x,H4<c+1+1+x:=fun x=>by omega
   have hg9':=hg9 0
   have hg14':=hg14 0
   obtain⟨C0,C1,C2,C3,D0,D1,D2,D3,hck⟩:=ED (pok ss[k+1] (bx (by omega)))
   have hgk:(bt AX ss)[k+1]? = some (AX ss[k+1]):=by simp[show k+1<ss.length by omega]
   rw[hck]at hgk
   have hki1:(k:Int)+1<(b.lines.length:Int)+1:=by omega
   have hk0:(0:Int)<=(k:Int)+1:=by omega
   have hlk:(AX ss[k+1]).length=10:=(ss[k+1]).len (pok ss[k+1] (bx (by omega)))
   have hdk:(AX ss[k+1]).drop 10=[]:=(ss[k+1]).drop (pok ss[k+1] (bx (by omega)))
   have hpn:=AIF hb hp hkl hxm (by have:=hp.sl;omega) (by rw[hsk'];exact hn)
   rw[hsk']at hpn
   have hps1:(pss++[(CA b.coin s k xs[j]).1])[k+1]? = some (CA b.coin s k xs[j]).1:=by rw[List.getElem?_append_right (by have:=hp.sl;omega)];simp[hp.sl]
   have hL1':=Lt.set (L:=L1) ⟨p2,p3,p4,p5,p9,p14,pst,b9,b14,pok⟩ (k:=k) xs[j] (CA b.coin s k xs[j]).1 (TI b.coin s k xs[j] hm.ok)
   obtain⟨L2,L3,c2,ls2,ss2,r1,r2,r3,r4,r5,r6,r7,r8⟩:=hrec _ _ _ hpn hps1 a L _ (rs++[[]]) (c+1+1) 65 [(64,true,.int .i64 ((k:Int)+1)),(63,true,i k),(62,true,.fn 170 [] [.ref (AE b),.ptr 1 4 g4 0,.ptr 1 3 g3 0,.ptr 1 2 g2 0,.ptr 1 5 g5 0]),
    (0,true,i k),(1,true,.ref (AE b)),(2,true,.ptr 1 4 g4 0),(3,true,.ptr 1 3 g3 0),(5,true,.ptr 1 5 g5 0),(34,true,sl (xs.map AB)),(35,true,i xs.length),(36,true,i j)] (ls.set k xs[j]) (ss.set (k+1) (CA b.coin s k xs[j]).1) hL hL1' (by have:=bN (loc:=[]) (fO hst hL1'.st) (fun _ _=>rfl); rwa [bq]at this) (by omega) (by simpa using hll) (by simpa using hsl) (MG hpl (by omega)) (MG hps (by omega))
   obtain⟨L',L1',c',ls',ss',i1,i2,i3,i4,i5,i6,i7,ih⟩:=AWU hb hlv g2 g3 g4 g5 g9 H4 W d k hkl pls pss s hp hsk hrec rs xs hxs e (j+1) (MF step a (U6 b d (k+1) (CA b.coin s k xs[j]).1 (pls++[xs[j]]) (pss++[(CA b.coin s k xs[j]).1]))) L2 L3 c2 ls2 ss2 (by omega) r1 r2 (fO hst r2.st) (by omega) r4 r5 (PW r6 hp.ll) (PW r7 hp.sl)
   refine⟨L',L1',c',ls',ss',?_,i2,by omega,i4,i5,i6,i7,fun n m hm=>?_⟩
   ·rw[bg hj,ck];simp only[hn,if_true];unfold MF at i1|-;rw[List.foldl_append];exact i1
   obtain⟨m,rfl⟩:=qNz m (by omega)
   have ih:=ih n m (by omega)
   have hca:=BP (A:=ann) (kn:=kn) (n:=n+W+1043) Tryz.func170 b170 rfl (args:=[i ((k:Int)+1),.ref (AE b),.ptr 1 4 g4 0,.ptr 1 3 g3 0,.ptr 1 2 g2 0,.ptr 1 5 g5 0]) (by simp) (some 65) (c+1+1) [(64,true,.int .i64 ((k:Int)+1)),(63,true,i k),(62,true,.fn 170 [] [.ref (AE b),.ptr 1 4 g4 0,.ptr 1 3 g3 0,.ptr 1 2 g2 0,.ptr 1 5 g5 0]),
    (0,true,i k),(1,true,.ref (AE b)),(2,true,.ptr 1 4 g4 0),(3,true,.ptr 1 3 g3 0),(5,true,.ptr 1 5 g5 0),(34,true,sl (xs.map AB)),(35,true,i xs.length),(36,true,i j)] (L :: ((14,H4,.vec 162 ((ss.map AX).set (k+1) (AX (CA b.coin s k xs[j]).1))) :: (9,g9,.vec 96 ((ls.map AB).set k (AB xs[j]))) :: L1) :: rs) []
   have r8:=r8 (n+43)
   rw[show n+43+(W+1000)=n+W+1043 by omega]at r8
   rw[bq,bq]at hca
   have hca:=hca.trans (r8.trans (by rw[<-bq,<-bq,unsnoc_snoc]))
   rw[AD]
   simp only[AE,AB,hcn]at hca p5 ih|-
   try simp at hca ih
   simp[hj,hw,hwk,AB,AM,q104,p2,p3,p4,p5,p9,p14,hg,hki,hsl,hll,hkl,hg9',hg14',AA.put,hgk,hki1,P8,hk0,hlk,hdk,hca,ih,nb10,nb3,DE]
   done
theorem BIO(hb:RN b)(hlv:∀a L,Lv a L->∀t:St,1<=t.up.length->AQ t L=L)(hs:JI b Lv step γ0 N0)(g2 g3 g4 g5 g9 H4:Nat) :
  ∀(d k:Nat),k+d=b.lines.length->BAH b Lv step γ0 g2 g3 g4 g5 g9 H4 (N0+60*d+1000) d k:=by
 intro d
 induction d with
 |zero=>
  intro k hkd pls pss s hp hsk a L L1 rs c dd fr ls ss hL hL1 hst hc hll hsl hpl hps
  obtain⟨p2,p3,p4,p5,p9,p14,pst,b9,b14,pok⟩:=hL1
  have hk:k<pss.length:=by have:=hp.sl;omega
  have hsk':pss[k]=s:=by rw[bw hk]at hsk;exact Option.some.inj hsk
  have hm:=(hp.met k hk).1
  rw[hsk']at hm
  have he:ss=pss:=by rw[<-hps,bp (by omega)]
  have he2:ls=pls:=by rw[<-hpl,bp (by omega)]
  have q93:=fun n=>k93 n b s k hm.ok (by have:=hb.cn;omega)
  obtain⟨a0,a1,a2,a3,b0,b1,b2,b3,hcs⟩:=ED hm.ok
  have hg:(bt AX ss)[k]? = some (AX s):=by simp[he,hsk]
  simp only[AE,hcs]at q93 hg
  have hki:(k:Int)<(b.lines.length:Int)+1:=by omega
  have hke:decide ((k:Int)=(b.lines.length:Int))=true:=by simp;omega
  have hrs:∀t:St,rs.length+2<=t.up.length->rs.map (AQ t)=rs:=fun t h=>by have:=hst t (by simpa using h);simp only[bc,cz.injEq]at this;exact this.2
  simp only[U6,show Tryz.f170.ntmps=68 from rfl]
  generalize hcc:b.counts.all (countOne s.money k)=cc at q93|-
  cases cc
  ·refine⟨L,L1,c,ls,ss,by simpa [MF]using hL,⟨p2,p3,p4,p5,p9,p14,pst,b9,b14,pok⟩,by omega,hll,hsl,hpl,hps,fun n=>?_⟩;simp[yR,AJ,AE,AB,AM,p2,p3,p4,p9,p14,hg,q93,hki,hsl,hlv a L hL,pst,hrs,<-bz]
  ·obtain⟨L',c',s1,s2,s3⟩:=hs a L L1 rs [] c [(26,true,V.vec 1 14 H4 (b.lines.length+1)),(25,true,V.vec 1 9 g9 b.lines.length),(24,true,V.yld 0 A9 γ0),(2,true,V.ptr 1 4 g4 0),(3,true,V.ptr 1 3 g3 0),(4,true,V.ptr 1 2 g2 0)] ls ss g9 H4 hL (by omega) (by rw[he,he2,<-show k=b.lines.length by omega];exact hp) p9 p14 (bN hst (fun _ _=>rfl));refine⟨L',L1,c',ls,ss,by simpa [MF,<-he,<-he2]using s1,⟨p2,p3,p4,p5,p9,p14,pst,b9,b14,pok⟩,by omega,hll,hsl,hpl,hps,fun n=>?_⟩;have s4:=fun n=>s3 (n+993);have hl2:=hlv _ _ s1;simp only[Nat.add_right_comm _ 993 N0]at s4;simp[yR,AJ,AE,AB,AM,p2,p3,p4,p9,p14,hg,q93,hki,hsl,hl2,pst,hrs,hke,Nat.mul_zero,<-bz,s4];done
 |succ d ih=>
  intro k hkd pls pss s hp hsk a L L1 rs c dd fr ls ss hL hL1 hst hc hll hsl hpl hps
  have hL1':=hL1
  obtain⟨p2,p3,p4,p5,p9,p14,pst,b9,b14,pok⟩:=hL1
  have hkl:k<b.lines.length:=by omega
  have hk:k<pss.length:=by have:=hp.sl;omega
  have hsk':pss[k]=s:=by rw[bw hk]at hsk;exact Option.some.inj hsk
  have hm:=(hp.met k hk).1
  rw[hsk']at hm
  have q93:=fun n=>k93 n b s k hm.ok (by have:=hb.cn;omega)
  have q81:=fun n=>k81 n b b.lines[k] hb.ch1 hb.ch4
  obtain⟨a0,a1,a2,a3,b0,b1,b2,b3,hcs⟩:=ED hm.ok
  have hg:(bt AX ss)[k]? = some (AX s):=by
   have:ss[k]? = some s:=by rw[<-hsk,<-hps,bh (by omega)]
   simp[this]
  simp only[AE,hcs,AB]at q93 hg q81
  have hki:(k:Int)<(b.lines.length:Int)+1:=by omega
  have hke:decide ((k:Int)=(b.lines.length:Int))=false:=by simp;omega
  have hrs:∀t:St,rs.length+2<=t.up.length->rs.map (AQ t)=rs:=fun t h=>by have:=hst t (by simpa using h);simp only[bc,cz.injEq]at this;exact this.2
  simp only[U6,bw hkl,show Tryz.f170.ntmps=68 from rfl]
  generalize hcc:b.counts.all (countOne s.money k)=cc at q93|-
  cases cc
  ·refine⟨L,L1,c,ls,ss,by simpa [MF]using hL,hL1',by omega,hll,hsl,hpl,hps,fun n=>?_⟩;simp[yR,AJ,AE,AB,AM,p2,p3,p4,p9,p14,hg,q93,hki,hsl,hlv a L hL,pst,hrs,<-bz]
  ·obtain⟨L',L1',c',ls',ss',i1,i2,i3,i4,i5,i6,i7,i8⟩:=AWU hb hlv g2 g3 g4 g5 g9 H4 (N0+60*d) d k hkl pls pss s hp hsk (ih (k+1) (by omega)) rs _ rfl (readingsP b.chairs b.lines[k]).length 0 a L L1 c ls ss (by omega) hL hL1' hst (by omega) hll hsl hpl hps;refine⟨L',L1',c',ls',ss',by simpa using i1,i2,by omega,i4,i5,i6,i7,fun n=>?_⟩;have i8:=i8 n (n+(N0+60*d)+1053) (by have:=EQ b.chairs b.lines[k] hb.ch4;omega);have hl2:=hlv _ _ i1;have pst2:=i2.st;rw[show n+(N0+60*(d+1)+1000)=n+(N0+60*d)+1060 by omega];generalize n+(N0+60*d)=n2 at i8|-;simp only[AE]at i8|-;try simp at i8
   simp[yR,AJ,AE,AB,AM,p2,p3,p4,p9,p14,hg,q93,hki,hsl,hke,pst2,hl2,hrs,q81,hkl,i8];done
end
theorem k79(n:Nat)(b:A5):AW cg kn (AH cg ann kn (n+100)) 139 [.agg (AE b)]=some (.fn 169 [] [.ref (AE b)]):=by rw[AO rfl,AP Tryz.func139 BEN rfl (by simp[AE,AB,AM])];simp[A3P,AJ,AE,AB,AM];done
section
variable {α:Type}{b:A5}{Lv:α->AA->Prop}{step:α->List AF->List AY->α}{γ0 N0:Nat}
def JQ:AY:=⟨[0,0,0,0],[0,0,0,0],0,0⟩
theorem BAI(hb:RN b)(hlv:∀a L,Lv a L->∀t:St,1<=t.up.length->AQ t L=L)(hs:JI b Lv step γ0 N0)(a:α)(L:AA)(hL:Lv a L)(fr:Fr) :
  ∃L' c',Lv (MF step a (GO b)) L'/\γ0+1<=c'/\∀n,K3 (BX cg ann kn (n+N0+1600)) none ⟨γ0+1,fr,⟨[],L⟩⟩ 169 [.yld 0 A9 γ0,.ref (AE b)]=some ⟨c',fr,⟨[],L'⟩⟩:=by
 obtain⟨a0,a1,a2,a3,b0,b1,b2,b3,hcs⟩:=ED (GJ b)
 have hl8:=hb.ln
 let L1:AA:=[(2,γ0+1,.box [.yld 0 A9 γ0]),(3,γ0+4,.box [.vec 1 9 (γ0+2) b.lines.length]),(4,γ0+5,.box [.vec 1 14 (γ0+3) (b.lines.length+1)]),
  (5,γ0+6,.box [.fn 170 [] [.ref (AE b),.ptr 1 4 (γ0+5) 0,.ptr 1 3 (γ0+4) 0,.ptr 1 2 (γ0+1) 0,.ptr 1 5 (γ0+6) 0]]),
  (9,γ0+2,.vec 96 ((bj b.lines.length (⟨0,0,0⟩:AF)).map AB)),(14,γ0+3,.vec 162 (((bj (b.lines.length+1) JQ).set 0 (BQ b)).map AX))]
 have hL1:Lt b γ0 (γ0+1) (γ0+4) (γ0+5) (γ0+6) (γ0+2) (γ0+3) (bj b.lines.length ⟨0,0,0⟩) ((bj (b.lines.length+1) JQ).set 0 (BQ b)) L1:=by
  refine⟨rfl,rfl,rfl,rfl,rfl,rfl,fun t ht=>?_,by omega,by omega,?_⟩
  ·have e0:¬0=t.up.length:=by omega
   have e1:¬1=t.up.length:=by omega
   obtain⟨up,loc⟩:=t;simp only at e0 e1;simp only[L1,BJ,KJ,EZ,fN];simp[e0,e1,AE];done
  ·intro x hx;rcases bf hx with hx|rfl
   ·rw[(List.mem_replicate.1 hx).2];exact⟨rfl,rfl⟩
   ·exact GJ b
 obtain⟨L',L1',c',ls',ss',r1,r2,r3,r4,r5,r6,r7,r8⟩:=BIO hb hlv hs (γ0+1) (γ0+4) (γ0+5) (γ0+6) (γ0+2) (γ0+3) b.lines.length 0 (by omega) [] [BQ b] (BQ b) (ABV hb) rfl a L L1 [] (γ0+8) 21 [(20,true,.fn 170 [] [.ref (AE b),.ptr 1 4 (γ0+5) 0,.ptr 1 3 (γ0+4) 0,.ptr 1 2 (γ0+1) 0,.ptr 1 5 (γ0+6) 0]),(5,true,.ptr 1 5 (γ0+6) 0)]
  (bj b.lines.length ⟨0,0,0⟩) ((bj (b.lines.length+1) JQ).set 0 (BQ b)) hL hL1 (by intro t ht;simp only[bc,cq,hL1.st t (by simpa using ht)]) (by omega) (by simp) (by simp) (by simp) (by simp[List.replicate_succ])
 refine⟨L',c',r1,by omega,fun n=>?_⟩
 have q105:=fun n=>AMK n b
 have hl2:=hlv _ _ r1
 rw[BP Tryz.func169 b169 rfl (by simp)]
 have hw:IntKind.i64.wrap ((b.lines.length:Int)+1)=(b.lines.length:Int)+1:=AU (by omega) (by have:=hb.ln;omega)
 have hl8:=hb.ln
 have m1:b.lines.length*24<=140737488355328:=by omega
 have m2:b.lines.length<=maxLen:=by unfold maxLen;omega
 have m3:(b.lines.length+1)*80<=140737488355328:=by omega
 have m4:b.lines.length+1<=maxLen:=by unfold maxLen;omega
 have m5:(0:Int)<=(b.lines.length:Int)+1:=by omega
 simp only[AE,hcs]at q105|-
 have ow:=fun n2 c fr s=>AA2 (P:=cg) (A:=ann) (kn:=kn) (n:=n2+1594) (d:=18) (c:=c) (fr:=(17,true,.agg [i b.chairs,i b.coin,i b.box,V.list false (bt AB b.lines),V.list false (bt AM b.counts)])::fr) (s:=s) (x:=.func 168) (args:=[.tmp 17]) (f:=168) (first:=[]) (cap:=[]) (vs:=[.agg [i b.chairs,i b.coin,i b.box,V.list false (bt AB b.lines),V.list false (bt AM b.counts)]]) (r:=.agg [i a0,i a1,i a2,i a3,i b0,i b1,i b2,i b3,i (BQ b).money,i (BQ b).mixed]) (by simp) (by simp) (by kernel_rfl) (by simp) (by simp[q105])
 have r8:=r8 (n+594-60*b.lines.length)
 have hca:=BP (A:=ann) (kn:=kn) (n:=n+N0+1594) Tryz.func170 b170 rfl (args:=[i 0,.ref (AE b),.ptr 1 4 (γ0+5) 0,.ptr 1 3 (γ0+4) 0,.ptr 1 2 (γ0+1) 0,.ptr 1 5 (γ0+6) 0]) (by simp) (some 21) (γ0+8) [(20,true,.fn 170 [] [.ref (AE b),.ptr 1 4 (γ0+5) 0,.ptr 1 3 (γ0+4) 0,.ptr 1 2 (γ0+1) 0,.ptr 1 5 (γ0+6) 0]),(5,true,.ptr 1 5 (γ0+6) 0)] [L] L1
 rw[show n+594-60*b.lines.length+(N0+60*b.lines.length+1000)=n+N0+1594 by omega]at r8
 have hca:=hca.trans (r8.trans rfl)
 generalize n+N0=n2 at hca ow|-
 have z1:(bj b.lines.length (⟨0,0,0⟩:AF)).map AB=bj b.lines.length [V.int IntKind.i64 0,V.int IntKind.i64 0,V.int IntKind.i64 0]:=by simp[AB]
 have z2:((bj (b.lines.length+1) JQ).set 0 (BQ b)).map AX=(bj (b.lines.length+1) [V.int IntKind.i64 0,V.int IntKind.i64 0,V.int IntKind.i64 0,V.int IntKind.i64 0,V.int IntKind.i64 0,V.int IntKind.i64 0,V.int IntKind.i64 0,V.int IntKind.i64 0,V.int IntKind.i64 0,V.int IntKind.i64 0]).set 0 [i a0,i a1,i a2,i a3,i b0,i b1,i b2,i b3,i (BQ b).money,i (BQ b).mixed]:=by rw[bn,hcs];simp[AX,JQ]
 simp only[L1,z1,z2,AE]at hca
 try simp at hca
 simp[A3Q,AJ,AB,AM,hw,m1,m2,m3,m4,m5,bz,ow,hca,hl2]
 done
end
theorem k76(n:Nat)(s:AY)(h:s.ok):AW cg kn (AH cg ann kn (n+100)) 134 [.agg (AX s)]=some (i s.mixed):=by obtain⟨a0,a1,a2,a3,b0,b1,b2,b3,hcs⟩:=ED h;rw[AO rfl,AP Tryz.func134 BEP rfl (by simp[hcs])];simp[A3S,AJ,hcs]
theorem BIP(n:Nat)(lo hi x:Int):AW cg kn (AH cg ann kn (n+400)) 160 [.agg [i lo,i hi],i x]=some (.agg [i (if x<lo then x else lo),i (if hi<x then x else hi)]):=by rw[AO rfl,AP Tryz.func160 BEQ rfl (by simp)];have q98:=fun n=>k98 n lo x;simp[A3T,AJ,q98];done
def qG(a x:Int):Int:=if x<a then x else a
def qQ(a x:Int):Int:=if a<x then x else a
def TM(r:Option (Int×Int))(x:Int):Option (Int×Int):=match r with
 |none=>some (x,x)
 |some (lo,hi)=>some (qG lo x,qQ hi x)
noncomputable def NM(b:A5):Fr:=[(12,true,.fn 169 [] [.ref (AE b)]),(11,true,.agg (AE b)),(3,true,.ptr 0 3 0 0),(4,true,.ptr 0 4 1 0),(5,true,.ptr 0 5 2 0),(6,true,.ptr 0 6 3 0),(7,true,.ptr 0 7 4 0)]
noncomputable def GR:Code:=.block 1 ((EJ 299).seq (((EJ 1195).seq (.cond (.tmp 21) (EJ 2731) .skip)).seq (EJ 939)))
@[simp] theorem u74(n:Nat)(st:XS):AH cg ann kn n 29 GR st=AH cg ann kn n 29 (.block 1 ((EJ 299).seq (((EJ 1195).seq (.cond (.tmp 21) (EJ 2731) .skip)).seq (EJ 939)))) st:=rfl
structure BAJ(b:A5)(k:Nat)(f:FuncId)(a:Option (Int×Int))(L:AA):Prop where
 p3:L.get 3=some (0,.box (AE b))
 p4:L.get 4=some (1,.box [i k])
 p5:L.get 5=some (2,.box [.fn f [] []])
 p6:L.get 6=some (3,.box [i (a.getD (0,0)).1,i (a.getD (0,0)).2])
 p7:L.get 7=some (4,.box [.bool a.isNone])
 pr:L.get A9=some (5,.loop (NM b) [13,14] (EJ 75) GR 29 .ready)
 st:∀t:St,1<=t.up.length->AQ t L=L
theorem AQH(n c:Nat)(fr:Fr)(s:St)(lo hi x:Int):stepK cg (BX cg ann kn (n+400)) (some 27) (.call true none (.func 160) [.tmp 25,.tmp 26]) ⟨c,(26,true,.int .i64 x)::(25,true,.agg [.int .i64 lo,.int .i64 hi])::fr,s⟩ =
  some ⟨c+1,(27,true,.agg [.int .i64 (qG lo x),.int .i64 (qQ hi x)])::(26,true,.int .i64 x)::(25,true,.agg [.int .i64 lo,.int .i64 hi])::fr,s.put s.up.length 27 c .dead⟩:=by
 rw[aL (f:=160) (first:=[]) (cap:=[]) (vs:=[.agg [.int .i64 lo,.int .i64 hi],.int .i64 x]) (r:=.agg [.int .i64 (qG lo x),.int .i64 (qQ hi x)]) (by simp) (by simp) (by kernel_rfl) (by simp) (by simpa [qG,qQ]using BIP n lo hi x)]
 rfl
theorem AWV{b:A5}(_hb:RN b){k:Nat}(hk:k<=b.lines.length){f:FuncId}{φ:AY->Int}(hh:BE cg f=false)(hφ:∀n s,s.ok->AW cg kn (AH cg ann kn (n+100)) f [.agg (AX s)]=some (i (φ s))) :
  JI b (BAJ b k f) (fun a _ ss=>TM a (φ (ss.getD k JQ))) 5 600:=by
 intro a L L1 rest loc c fr ls ss g9 H4 hL hc hp p9 p14 hst
 obtain⟨p3,p4,p5,p6,p7,pr,pst⟩:=hL
 have hks:k<ss.length:=by have:=hp.sl;omega
 have hok:=(hp.met k hks).1.ok
 have hgk:(bt AX ss)[k]? = some (AX ss[k]):=by simp[hks]
 obtain⟨a0,a1,a2,a3,b0,b1,b2,b3,hcs⟩:=ED hok
 have hq:=fun n=>hφ n ss[k] hok
 rw[hcs]at hgk hq
 have hki:(k:Int)<(b.lines.length:Int)+1:=by omega
 have hsl:=hp.sl
 have e3:3<c:=by omega
 have e4:4<c:=by omega
 have e3':3<c+1:=by omega
 have hst':=fun t h=>hst t h
 simp only[bc,List.map_append,cq,cz.injEq]at hst'
 have hgd:ss.getD k JQ=ss[k]:=by simp[List.getD_eq_getElem?_getD,hks]
 have hge:ss[k]?.getD JQ=ss[k]:=by simp[hks]
 have hun:∀A:AA,CW (A::L1::(rest++[loc]))=some (A::L1::rest,loc):=fun A=>by rw[<-bq,<-bq,unsnoc_snoc]
 have hsr:∀t:St,(L1::(rest++[loc])).length+1<=t.up.length->(rest.map (AQ t)=rest/\AQ t loc=loc):=fun t h=>by have:=(hst' t h).2;exact⟨List.append_inj_left' this rfl,by simpa using List.append_inj_right' this rfl⟩
 have h1s:∀t:St,(L1::(rest++[loc])).length+1<=t.up.length->AQ t L1=L1:=fun t h=>(hst' t h).1
 cases a with
 |none=>
  refine⟨(A9,5,.loop (NM b) [13,14] (EJ 75) GR 29 .ready)::(6,3,.box [i (qG (φ ss[k]) (φ ss[k])),i (qQ (φ ss[k]) (φ ss[k]))])::(7,4,.box [.bool false])::(6,3,.box [i (φ ss[k]),i (φ ss[k])])::(A9,5,.loop (NM b) [13,14] (EJ 75) GR 29 .busy)::L,c+1,?_,by omega,fun n=>?_⟩
  ·have em:qG (φ ss[k]) (φ ss[k])=φ ss[k]:=by unfold qG;split<;>rfl
   have ex:qQ (φ ss[k]) (φ ss[k])=φ ss[k]:=by unfold qQ;split<;>rfl
   exact⟨by simpa [A9]using p3,by simpa [A9]using p4,by simpa [A9]using p5,by simp[A9,hgd,hge,TM,em,ex],by simp[A9,hgd,TM],by simp,fun t ht=>by simp[pst t ht]⟩
  ·have ow:=fun c fr s lo hi x=>AQH (n+196) c fr s lo hi x;simp only[bz,cj]at ow;rw[NF (by simpa using pr) rfl (by omega)];simp only[HM,Fr.put,ADW,NM];simp;rw[EO (fr0:=NM b) (ps:=[13,14]) (asg:=(EJ 75)) (body':=GR) (N:=29) (by simpa using pr) (by omega)];generalize hB:A6.loop (NM b) [13,14] (EJ 75) GR 29 LS.busy=B;simp[hh,p3,p4,p5,p6,p7,p14,hgk,hq,hki,hsl,AA.put,A9,e3,e4,e3',ow];subst hB;rw[EP (fr0:=NM b) (ps:=[13,14]) (asg:=(EJ 75)) (body:=GR) (N:=29) (by simp) (hun _) (by simp) (by omega)];simp[pst,h1s,hsr,AA.put,NM]
 |some a=>
  obtain⟨lo,hi⟩:=a
  simp only[Option.getD_some]at p6
  refine⟨(A9,5,.loop (NM b) [13,14] (EJ 75) GR 29 .ready)::(6,3,.box [i (qG lo (φ ss[k])),i (qQ hi (φ ss[k]))])::(A9,5,.loop (NM b) [13,14] (EJ 75) GR 29 .busy)::L,c+1,?_,by omega,fun n=>?_⟩
  ·exact⟨by simpa [A9]using p3,by simpa [A9]using p4,by simpa [A9]using p5,by simp[A9,hgd,hge,TM],by simpa [A9,hgd,TM]using p7,by simp,fun t ht=>by simp[pst t ht]⟩
  ·have ow:=fun c fr s lo hi x=>AQH (n+196) c fr s lo hi x;simp only[bz,cj]at ow;rw[NF (by simpa using pr) rfl (by omega)];simp only[HM,Fr.put,ADW,NM];simp;rw[EO (fr0:=NM b) (ps:=[13,14]) (asg:=(EJ 75)) (body':=GR) (N:=29) (by simpa using pr) (by omega)];generalize hB:A6.loop (NM b) [13,14] (EJ 75) GR 29 LS.busy=B;simp[hh,p3,p4,p5,p6,p7,p14,hgk,hq,hki,hsl,AA.put,A9,e3,e4,e3',ow];subst hB;rw[EP (fr0:=NM b) (ps:=[13,14]) (asg:=(EJ 75)) (body:=GR) (N:=29) (by simp) (hun _) (by simp) (by omega)];simp[pst,h1s,hsr,AA.put,NM]
theorem k74(n:Nat)(b:A5)(hb:RN b)(k:Nat)(hk:k<=b.lines.length)(f:FuncId)(φ:AY->Int)(hh:BE cg f=false)(hφ:∀n s,s.ok->AW cg kn (AH cg ann kn (n+100)) f [.agg (AX s)]=some (i (φ s))) :
  AW cg kn (AH cg ann kn (n+3000)) 133 [.agg (AE b),i k,.fn f [] []]=some (.agg [i (((MF (fun a _ ss=>TM a (φ (ss.getD k JQ))) none (GO b)).getD (0,0)).1),i (((MF (fun a _ ss=>TM a (φ (ss.getD k JQ))) none (GO b)).getD (0,0)).2)]):=by
 rw[AO rfl,AP Tryz.func133 BEO rfl (by simp[AE,AB,AM])]
 have q79:=fun n=>k79 n b
 have hL0:BAJ b k f none [(A9,5,.loop (NM b) [13,14] (EJ 75) GR 29 .ready),(3,0,.box (AE b)),(4,1,.box [i k]),(5,2,.box [.fn f [] []]),(6,3,.box [i 0,i 0]),(7,4,.box [.bool true])] :=
  ⟨by simp[A9],by simp[A9],by simp[A9],by simp[A9],by simp[A9],by simp,fun t ht=>by simp[AE]⟩
 obtain⟨L',c',r1,r2,r3⟩:=BAI hb (fun a L h=>h.st) (AWV hb hk hh hφ) none _ hL0 (NM b)
 generalize MF (fun a _ ss=>TM a (φ (ss.getD k JQ))) none (GO b)=R at r1|-
 obtain⟨p3,p4,p5,p6,p7,pr,pst⟩:=r1
 have r3:=r3 (n+794)
 simp only[AE,NM,bz,cj]at q79 r3
 simp[A3R,AJ,AE,AB,AM,q79,NG]
 rw[PP rfl]
 simp
 rw[show(Code.block 1 ((EJ 299).seq (((EJ 1195).seq (Code.cond (Operand.tmp 21) (EJ 2731) Code.skip)).seq (EJ 939))))=GR from rfl]
 simp only[r3]
 rw[TD (fr0:=NM b) (ps:=[13,14]) (asg:=(EJ 75)) (body:=GR) (N:=29) (by simpa using pr) (by omega)]
 have e3:3<c':=by omega
 simp[p6,AA.put,A9,e3]
 done
 done
def uZ(many y:Int):Int:=if y=many then 1 else if y=0 then 2 else 3
@[simp] theorem A12:II cg 133=false:=by kernel_rfl
theorem U7{b:A5}{fine:Bool}(h:EG b fine=0):E4 b=0/\fine=true/\PA b=true:=by
 unfold EG at h;split at h
 ·rename_i h0;split at h
  ·rename_i h1;split at h
   ·rename_i h2;exact⟨h0,h1,h2⟩
   ·omega
  ·omega
 ·rename_i h0;exact absurd h h0
def jU(b:A5)(φ:AY->Int)(k:Nat):Int×Int:=(MF (fun a _ ss=>TM a (φ (ss.getD k JQ))) none (GO b)).getD (0,0)
def vA(b:A5):V:=if EG b true=0 then .tup [.agg [i (jU b AY.mixed b.lines.length).1,i (jU b AY.mixed b.lines.length).2],i 0] else .tup [.agg [i 0,i 0],i (EG b true)]
theorem k29(n:Nat)(b:A5):AW cg kn (AH cg ann kn (n+3200)) 98 [.agg (AE b)]=some (vA b):=by
 rw[AO rfl,AP Tryz.func98 b98 rfl (by simp[AE,AB,AM])];have q68:=fun n=>k68 n b true;unfold vA;by_cases he:EG b true=0
 ·obtain⟨h0,h1,h2⟩:=U7 he;have q1:=fun n=>k74 n b (XN h0) b.lines.length (Nat.le_refl _) 134 AY.mixed (by simp) (fun n s hs=>k76 n s hs);rw[if_pos he];rw[he]at q68;unfold jU;simp only[AE]at q68 q1|-;generalize MF _ none (GO b)=R at q1|-;simp[c98,AJ,AB,AM,q68,q1];done
 ·have e:decide (EG b true=0)=false:=by simpa using he
  rw[if_neg he];simp only[AE]at q68|-;generalize EG b true=A at q68 e|-;simp[c98,AJ,AB,AM,q68,e];done
end Go.Proofs.Tryz.Op
