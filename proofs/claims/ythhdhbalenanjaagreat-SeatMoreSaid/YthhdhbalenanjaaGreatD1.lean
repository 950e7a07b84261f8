/- Contracts of the reference: People, Chairs, Minds, Groups. No condition but small numbers. -/
import Derived.Test.YthhdhbalenanjaaGreatC1
import Derived.Test.YthhdhbalenanjaaGreatEa
open Go.Proofs.Tryz renaming prog->db
open List renaming getD_eq_getElem?_getD->bj,getElem?_eq_getElem->bk,drop_eq_getElem_cons->bq,getElem_mem->bw,take_succ_eq_append_getElem->bx,range->bz,mem_cons_of_mem->bb,length_range->bc,all_cons->bf,map_append->bg,drop_eq_nil_of_le->bh,take_length->bm,length_take->bn,mem_map->bp,map_congr_left->cj,drop_zero->cq,getElem_range->cw,mem_range->cd,not_mem_nil->cg,drop_length->cm,length_map->cn,map_take->ct,sum_append->dj,count_le_length->dk,map_map->dv,mem_cons->dx,map->dz
open Bool renaming and_eq_true->ck,true_and->cx,not_eq_true'->cz,false_and->cp
open Option renaming getD_some->dw
set_option maxRecDepth 100000
set_option linter.unusedSimpArgs false
open Go Go.Pg Go.Proofs Go.Wind
namespace Go.Wind
def DL(G:List (Nat×Int)):Int:=(G.map (·.2)).sum
theorem jZ{G:List (Nat×Int)}{k:Nat}(h:k<G.length):DL (G.take (k+1))=DL (G.take k)+G[k].2:=by unfold DL;rw[bx h,bg,dj];simp
theorem Z5:∀{G:List (Nat×Int)},(∀g∈G,0<=g.2/\g.2<=4)->0<=DL G/\DL G<=4*G.length
 |[],_=>by simp[DL]
 |g::G,h=>by have ih:=Z5 (G:=G) fun x hx=>h x (by simp[hx]);have h1:=h g (by simp);simp only[DL,List.map_cons,List.sum_cons,List.length_cons]at ih|-;omega
end Go.Wind
namespace Go.Proofs.Tryz.Op
theorem A5E(G:List (Nat×Int))(hl:G.length<=100)(hg:∀g∈G,0<=g.2/\g.2<=4):∀(d k:Nat),k+d=G.length->∀n m,d<m->BI (AE db ann kn (n+100) 19) aD (ann 19 (BZ aD)) m ⟨0,[(0,true,.list false (G.map A9)),(3,true,i (DL (G.take k))),(4,true,i k)],⟨[],[]⟩⟩ =
  some (.exit 0,⟨0,[(8,true,.bool false),(7,true,i G.length),(6,true,.list false (G.map A9)),(5,true,i G.length),(0,true,.list false (G.map A9)),(3,true,i (DL G)),(4,true,i G.length)],⟨[],[]⟩⟩)
 |0,k,hk,n,m+1,hm=>by
  obtain rfl:k=G.length:=by omega
  rw[bm,AB];simp
 |d+1,k,hk,n,m+1,hm=>by
  have hk':k<G.length:=by omega
  have hw:=BS (k:=k) (by omega);have h1:=hg G[k] (bw hk');have h2:=Z5 (G:=G.take k) fun x hx=>hg x (List.mem_of_mem_take hx);have h3:(G.take k).length<=100:=by rw[bn];omega
  have hwp:IntKind.i64.wrap (DL (G.take k)+G[k].2)=DL (G.take k)+G[k].2:=AV (by omega) (by omega);have ih:=A5E G hl hg d (k+1) (by omega) n m (by omega);rw[jZ hk']at ih;generalize DL (G.take k)=S at *;generalize DL G=SS at *;rw[AB];simp at ih;simp[hk',hw,hwp,A9,ih]
theorem ALG(n:Nat)(G:List (Nat×Int))(hl:G.length<=100)(hg:∀g∈G,0<=g.2/\g.2<=4):A3 db kn (AE db ann kn (n+300)) 72 [.list false (G.map A9)]=some (i (DL G)):=by rw[AP rfl,AQ Tryz.func72 b72 rfl (by simp[A9])];have q:=fun n m=>A5E G hl hg G.length 0 (by omega) n (m+101) (by omega);rw[show DL (G.take 0)=0 from rfl]at q;generalize DL G=S at *;simp at q;simp[c72,AF,q]
theorem A5F(c:AO)(r:Nat)(hr:r<c.chairs.length)(hl:c.chairs[r].length<=100)(N:Nat)(hN:N<=100000):∀(d j:Nat),j+d=c.chairs[r].length->∃fr,BJ fr 1=some (true,.ptr 0 1 0 0)/\BJ fr 3=some (true,i ((N+c.chairs[r].count true:Nat):Int))/\BJ fr 4=some (true,i r)/\∀n m,d<m->BI (AE db ann kn (n+200) 34) aE (ann 34 (BZ aE)) m ⟨1,[(1,true,.ptr 0 1 0 0),(3,true,i ((N+(c.chairs[r].take j).count true:Nat):Int)),(4,true,i r),(5,true,i j)],⟨[],[(1,0,.box (AD c))]⟩⟩ =
  some (.exit 2,⟨1,fr,⟨[],[(1,0,.box (AD c))]⟩⟩)
 |0,j,hd=>by
  obtain rfl:j=c.chairs[r].length:=by omega
  rw[bm];refine⟨?fr,?g1,?g3,?g4,fun n m hm=>?g2⟩;case g2=>
   obtain⟨m,rfl⟩:=qNz m (by omega)
   rw[AB]
   simp[AD,hr,AW]
   rfl
  case g1=>simp
  case g3=>simp
  case g4=>simp
 |d+1,j,hd=>by
  have hj:j<c.chairs[r].length:=by omega
  have hw:=BS (k:=j) (by omega);obtain⟨fr,g1,g3,g4,ih⟩:=A5F c r hr hl N hN d (j+1) (by omega);refine⟨fr,g1,g3,g4,fun n m hm=>?_⟩;obtain⟨m,rfl⟩:=qNz m (by omega);have ih:=ih n m (by omega);rw[Z4 _ hj]at ih;have hcl:(c.chairs[r].take j).count true<=100:=by have:=dk (a:=true) (l:=c.chairs[r].take j);rw[bn]at this;omega
  generalize (c.chairs[r].take j).count true=C at *;have hwC2:IntKind.i64.wrap ((N:Int)+(C:Int)+1)=((N:Int)+((C:Int)+1)):=by rw[AV (by omega) (by omega)];omega
  rw[AB];simp only[AD]at ih|-;cases hz:c.chairs[r][j]with
  |true=>
   rw[hz,if_pos rfl]at ih
   simp at ih
   simp[hr,hj,hw,hz,AW,BH,hwC2,ih]
  |false=>
   rw[hz,if_neg (by decide),Nat.add_zero]at ih
   simp at ih
   simp[hr,hj,hw,hz,AW,BH,ih]
theorem A5G(c:AO)(hl:c.chairs.length<=100)(hr:∀l∈c.chairs,l.length<=100):∀(d r N:Nat),r+d=c.chairs.length->N<=100*r->∃fr,BJ fr 3=some (true,i ((N+((c.chairs.drop r).map fun l=>l.count true).sum:Nat):Int))/\∀n m,d<m->BI (AE db ann kn (n+400) 34) aF (ann 34 (BZ aF)) m ⟨1,[(1,true,.ptr 0 1 0 0),(3,true,i N),(4,true,i r)],⟨[],[(1,0,.box (AD c))]⟩⟩ =
  some (.exit 0,⟨1,fr,⟨[],[(1,0,.box (AD c))]⟩⟩)
 |0,r,N,hd,hN=>by
  obtain rfl:r=c.chairs.length:=by omega
  refine⟨?fr,?g3,fun n m hm=>?g2⟩;case g2=>
   obtain⟨m,rfl⟩:=qNz m (by omega)
   rw[AB]
   simp[AD]
   rfl
  case g3=>simp
 |d+1,r,N,hd,hN=>by
  have hj:r<c.chairs.length:=by omega
  have hw:=BS (k:=r) (by omega);have hlj:=hr c.chairs[r] (bw hj);obtain⟨f1,g1,g3,g4,q⟩:=A5F c r hj hlj N (by omega) c.chairs[r].length 0 (by omega);have q:=fun n m=>q n (m+101) (by omega);have hcl:=dk (a:=true) (l:=c.chairs[r]);obtain⟨fr,e3,ih⟩:=A5G c hl hr d (r+1) (N+c.chairs[r].count true) (by omega) (by omega);have hs:N+c.chairs[r].count true+((c.chairs.drop (r+1)).map fun l=>l.count true).sum=N+((c.chairs.drop r).map fun l=>l.count true).sum:=by rw[bq hj,List.map_cons,List.sum_cons];omega
  rw[hs]at e3;refine⟨fr,e3,fun n m hm=>?_⟩;obtain⟨m,rfl⟩:=qNz m (by omega);have ih:=ih n m (by omega);generalize c.chairs[r].count true=C at *;simp only[List.take_zero,List.count_nil,Nat.add_zero]at q;rw[AB];simp only[AD]at ih q|-;simp at ih q g3;simp[hj,hw,AW,q,g1,g3,g4,ih]
theorem AFB(n:Nat)(c:AO)(hl:c.chairs.length<=100)(hr:∀l∈c.chairs,l.length<=100):A3 db kn (AE db ann kn (n+600)) 73 [.agg (AD c)]=some (i (EC c)):=by rw[AP rfl,AQ Tryz.func73 b73 rfl (by simp[AD,AH,AN,AJ,AW,BH,AS])];obtain⟨fr,g3,q⟩:=A5G c hl hr c.chairs.length 0 0 (by omega) (by omega);have q:=fun n m=>q n (m+101) (by omega);have e:((c.chairs.drop 0).map fun l=>l.count true).sum=EC c:=rfl;rw[e,Nat.zero_add]at g3;generalize EC c=T at *;simp only[AD]at q|-;simp at q g3;simp[c73,AF,q,g3]
theorem ALH(n:Nat)(c:AO)(a b:Nat)(ha:a<c.fams.length)(hb:b<c.fams.length):A3 db kn (AE db ann kn (n+300)) 122 [.agg (AD c),i a,i b]=some (.bool (HW c a b)):=by
 rw[AP rfl,AQ Tryz.func122 BIO rfl (by simp[AD,AH,AN,AJ,AW,BH,AS])];unfold HW;rw[ZD ha,ZD hb];have e:decide ((a:Int)=(b:Int))=decide (a=b):=decide_eq_decide.2 (by omega);have e2:decide (a≠b)=!decide (a=b):=by simp
 rw[e2];generalize decide (a=b)=z at *;rcases hF1:c.fams[a]with⟨s1,g1,d1,h1⟩;rcases hF2:c.fams[b]with⟨s2,g2,d2,h2⟩;simp only[AD];have p1:Nat.beq 4 1=false:=rfl;cases z<;>cases d1<;>cases h1<;>cases d2<;>cases h2<;>simp[A7K,AF,e,ha,hb,hF1,hF2,AS,A0,BV,B8,BF,FD,EQ,DB,GU,p1]
end Go.Proofs.Tryz.Op
namespace Go.Wind
def AY(G:List (Nat×Int))(ss:List (Int×Int))(k:Nat):Sp:=⟨(G.getD k (0,0)).1,(G.getD k (0,0)).2,(ss.getD k (0,0)).1,(ss.getD k (0,0)).2⟩
def LJ(c:AO)(x y:Sp)(a b:Nat):Bool :=
 let d:=y.place+(a:Int)-x.place-(b:Int)
 decide (d=0)||((decide (d=1)||decide (d = -1))&&HW c y.fam x.fam)
theorem ABP(c:AO)(x y:Sp):R5 c x y=(bz y.size.toNat).any fun a=>(bz x.size.toNat).any (LJ c x y a):=rfl
def TJ(c:AO)(x y:Sp):Bool:=decide (y.row≠x.row)||!R5 c x y
end Go.Wind
namespace Go.Proofs.Tryz.Op
section
variable (c:AO)(G:List (Nat×Int))(ss:List (Int×Int))(t q:Nat)
set_option maxHeartbeats 1000000 in
theorem AQC(hG:ss.length<=G.length)(ht:t+1=ss.length)(hq:q<t)(hs:ss.length<=100)(hf:∀g∈G,g.1<c.fams.length/\0<=g.2/\g.2<=4)(hp:0<=(AY G ss q).place/\(AY G ss q).place<=1000)(hx:0<=(AY G ss t).place/\(AY G ss t).place<=1000)(a:Nat)(ha:a<=4):∀(d b:Nat),b+d=(AY G ss t).size.toNat->∃fr,BJ fr 1=some (true,.list false (G.map A9))/\BJ fr 2=some (true,.list false (ss.map AJ))/\BJ fr 3=some (true,.ptr 0 3 0 0)/\BJ fr 7=some (true,i t)/\BJ fr 8=some (true,.ptr 0 8 1 0)/\BJ fr 9=some (true,i (AY G ss t).size)/\BJ fr 10=some (true,i q)/\BJ fr 11=some (true,i a) /\
  ∀n m,d<m->BI (AE db ann kn (n+400) 112) UI (ann 112 (BZ UI)) m ⟨2,[(1,true,.list false (G.map A9)),(2,true,.list false (ss.map AJ)),(3,true,.ptr 0 3 0 0),(7,true,i t),(8,true,.ptr 0 8 1 0),(9,true,i (AY G ss t).size),(10,true,i q),(11,true,i a),(12,true,i b)],⟨[],[(3,0,.box (AD c)),(8,1,.box [i (AY G ss t).row,i (AY G ss t).place])]⟩⟩ =
   if ((bz (AY G ss t).size.toNat).drop b).any (LJ c (AY G ss t) (AY G ss q) a)=true then some (.ret,⟨2,[(6,true,.bool false)],⟨[],[]⟩⟩) else some (.exit 4,⟨2,fr,⟨[],[(3,0,.box (AD c)),(8,1,.box [i (AY G ss t).row,i (AY G ss t).place])]⟩⟩)
 |0,b,hd=>by
  have hgt:t<G.length:=by omega
  have h1:=hf G[t] (bw hgt);have hge:(AY G ss t).size=G[t].2:=by simp[AY,bj,bk hgt]
  have hb:(b:Int)=(AY G ss t).size:=by omega
  rw[bh (by rw[bc];omega),hb];refine⟨?fr,?g1,?g2,?g3,?g4,?g5,?g6,?g7,?g8,fun n m hm=>?g9⟩;case g9=>
   obtain⟨m,rfl⟩:=qNz m (by omega)
   rw[AB]
   simp[AD]
   rfl
  all_goals simp
 |d+1,b,hd=>by
  have hgt:t<G.length:=by omega
  have hgq:q<G.length:=by omega
  have hsq:q<ss.length:=by omega
  have h1:=hf G[t] (bw hgt);have h2:=hf G[q] (bw hgq);have et:(AY G ss t).size=G[t].2:=by simp[AY,bj,bk hgt]
  have et1:(AY G ss t).fam=G[t].1:=by simp[AY,bj,bk hgt]
  have eq1:(AY G ss q).fam=G[q].1:=by simp[AY,bj,bk hgq]
  have eq2:(AY G ss q).place=ss[q].2:=by simp[AY,bj,bk hsq]
  have hlt:(b:Int)<(AY G ss t).size:=by omega
  have hw:=BS (k:=b) (by omega);have qm:=fun n=>ALH n c G[q].1 G[t].1 h2.1 h1.1;have w1:IntKind.i64.wrap (ss[q].2+(a:Int))=ss[q].2+a:=AV (by omega) (by omega);have w2:IntKind.i64.wrap (ss[q].2+(a:Int)-(AY G ss t).place)=ss[q].2+a-(AY G ss t).place:=AV (by omega) (by omega);obtain⟨D,hD⟩:∃D,ss[q].2+(a:Int)-(AY G ss t).place-b=D:=⟨_,rfl⟩;have w3:IntKind.i64.wrap (ss[q].2+(a:Int)-(AY G ss t).place-b)=D:=by rw[AV (by omega) (by omega),hD]
  obtain⟨fr,g1,g2,g3,g4,g5,g6,g7,g8,ih⟩:=AQC hG ht hq hs hf hp hx a ha d (b+1) (by omega);refine⟨fr,g1,g2,g3,g4,g5,g6,g7,g8,fun n m hm=>?_⟩;obtain⟨m,rfl⟩:=qNz m (by omega);have ih:=ih n m (by omega);rw[bq (by rw[bc];omega),List.any_cons,cw];have ec:LJ c (AY G ss t) (AY G ss q) a b=(decide (ss[q].2+(a:Int)-(AY G ss t).place-b=0)||((decide (ss[q].2+(a:Int)-(AY G ss t).place-b=1)||decide (ss[q].2+(a:Int)-(AY G ss t).place-b = -1))&&HW c G[q].1 G[t].1)):=by unfold LJ;rw[eq1,et1,eq2]
  rw[ec,hD];clear hD ec;generalize ((bz (AY G ss t).size.toNat).drop (b+1)).any (LJ c (AY G ss t) (AY G ss q) a)=z at ih|-;generalize HW c G[q].1 G[t].1=z4 at *;generalize AY G ss t=X at *;generalize e1:decide (D=0)=z1;generalize e2:decide (D=1)=z2;generalize e3:decide (D = -1)=z3;rw[AB];simp only[AD]at ih qm|-;cases z1 with
  |true=>simp[hlt,hw,hgt,hgq,hsq,w1,w2,w3,e1,DB,A9,AJ,AW,BH,AS,AN,AH]
  |false=>
   cases z2 with
   |true=>
    cases z4 with
    |true=>simp[hlt,hw,hgt,hgq,hsq,w1,w2,w3,e1,e2,qm,DB,A9,AJ,AW,BH,AS,AN,AH]
    |false=>cases z<;>(simp at ih;simp[hlt,hw,hgt,hgq,hsq,w1,w2,w3,e1,e2,qm,DB,A9,AJ,AW,BH,AS,AN,AH,ih])
   |false=>
    cases z3 with
    |true=>
     cases z4 with
     |true=>simp[hlt,hw,hgt,hgq,hsq,w1,w2,w3,e1,e2,e3,qm,DB,A9,AJ,AW,BH,AS,AN,AH]
     |false=>cases z<;>(simp at ih;simp[hlt,hw,hgt,hgq,hsq,w1,w2,w3,e1,e2,e3,qm,DB,A9,AJ,AW,BH,AS,AN,AH,ih])
    |false=>cases z<;>(simp at ih;simp[hlt,hw,hgt,hgq,hsq,w1,w2,w3,e1,e2,e3,DB,A9,AJ,AW,BH,AS,AN,AH,ih])
theorem AQD(hG:ss.length<=G.length)(ht:t+1=ss.length)(hq:q<t)(hs:ss.length<=100)(hf:∀g∈G,g.1<c.fams.length/\0<=g.2/\g.2<=4)(hp:0<=(AY G ss q).place/\(AY G ss q).place<=1000)(hx:0<=(AY G ss t).place/\(AY G ss t).place<=1000):∀(d a:Nat),a+d=(AY G ss q).size.toNat->∃fr,BJ fr 1=some (true,.list false (G.map A9))/\BJ fr 2=some (true,.list false (ss.map AJ))/\BJ fr 3=some (true,.ptr 0 3 0 0)/\BJ fr 7=some (true,i t)/\BJ fr 8=some (true,.ptr 0 8 1 0)/\BJ fr 9=some (true,i (AY G ss t).size)/\BJ fr 10=some (true,i q) /\
  ∀n m,d<m->BI (AE db ann kn (n+600) 112) UJ (ann 112 (BZ UJ)) m ⟨2,[(1,true,.list false (G.map A9)),(2,true,.list false (ss.map AJ)),(3,true,.ptr 0 3 0 0),(7,true,i t),(8,true,.ptr 0 8 1 0),(9,true,i (AY G ss t).size),(10,true,i q),(11,true,i a)],⟨[],[(3,0,.box (AD c)),(8,1,.box [i (AY G ss t).row,i (AY G ss t).place])]⟩⟩ =
   if ((bz (AY G ss q).size.toNat).drop a).any (fun a=>(bz (AY G ss t).size.toNat).any (LJ c (AY G ss t) (AY G ss q) a))=true then some (.ret,⟨2,[(6,true,.bool false)],⟨[],[]⟩⟩) else some (.exit 2,⟨2,fr,⟨[],[(3,0,.box (AD c)),(8,1,.box [i (AY G ss t).row,i (AY G ss t).place])]⟩⟩)
 |0,a,hd=>by
  have hgq:q<G.length:=by omega
  have h1:=hf G[q] (bw hgq);have hge:(AY G ss q).size=G[q].2:=by simp[AY,bj,bk hgq]
  have hb:(a:Int)=G[q].2:=by omega
  rw[bh (by rw[bc];omega),hb];refine⟨?fr,?g1,?g2,?g3,?g4,?g5,?g6,?g7,fun n m hm=>?g9⟩;case g9=>
   obtain⟨m,rfl⟩:=qNz m (by omega)
   rw[AB]
   simp[AD,hgq,A9]
   rfl
  all_goals simp
 |d+1,a,hd=>by
  have hgq:q<G.length:=by omega
  have hgt:t<G.length:=by omega
  have h2:=hf G[q] (bw hgq);have h3:=hf G[t] (bw hgt);have eq3:(AY G ss q).size=G[q].2:=by simp[AY,bj,bk hgq]
  have hlt:(a:Int)<G[q].2:=by omega
  have hw:=BS (k:=a) (by omega);obtain⟨f0,b1,b2,b3,b4,b5,b6,b7,b8,qi⟩:=AQC c G ss t q hG ht hq hs hf hp hx a (by omega) (AY G ss t).size.toNat 0 (by omega);have hts:(AY G ss t).size=G[t].2:=by simp[AY,bj,bk hgt]
  have qi:=fun n m=>qi n (m+100) (by omega);rw[cq]at qi;obtain⟨fr,g1,g2,g3,g4,g5,g6,g7,ih⟩:=AQD hG ht hq hs hf hp hx d (a+1) (by omega);refine⟨fr,g1,g2,g3,g4,g5,g6,g7,fun n m hm=>?_⟩;obtain⟨m,rfl⟩:=qNz m (by omega);have ih:=ih n m (by omega);rw[bq (by rw[bc];omega),List.any_cons,cw];generalize ((bz (AY G ss q).size.toNat).drop (a+1)).any (fun a=>(bz (AY G ss t).size.toNat).any (LJ c (AY G ss t) (AY G ss q) a))=z at ih|-;generalize (bz (AY G ss t).size.toNat).any (LJ c (AY G ss t) (AY G ss q) a)=z1 at *;generalize AY G ss t=X at *;rw[AB];simp only[AD]at ih qi|-;cases z1<;>cases z<;>(simp at ih qi;simp[hlt,hw,hgq,qi,b1,b2,b3,b4,b5,b6,b7,b8,A9,ih])
end
theorem A5H(c:AO)(G:List (Nat×Int))(ss:List (Int×Int))(t:Nat)(hG:ss.length<=G.length)(ht:t+1=ss.length)(hs:ss.length<=100)(hf:∀g∈G,g.1<c.fams.length/\0<=g.2/\g.2<=4)(hp:∀q,q<t->0<=(AY G ss q).place/\(AY G ss q).place<=1000)(hx:0<=(AY G ss t).place/\(AY G ss t).place<=1000):∀(d q:Nat),q+d=t->∃fr,
  ∀n m,d<m->BI (AE db ann kn (n+800) 112) aG (ann 112 (BZ aG)) m ⟨2,[(1,true,.list false (G.map A9)),(2,true,.list false (ss.map AJ)),(3,true,.ptr 0 3 0 0),(7,true,i t),(8,true,.ptr 0 8 1 0),(9,true,i (AY G ss t).size),(10,true,i q)],⟨[],[(3,0,.box (AD c)),(8,1,.box [i (AY G ss t).row,i (AY G ss t).place])]⟩⟩ =
   if ((bz t).drop q).all (fun q=>TJ c (AY G ss t) (AY G ss q))=true then some (.exit 0,⟨2,fr,⟨[],[(3,0,.box (AD c)),(8,1,.box [i (AY G ss t).row,i (AY G ss t).place])]⟩⟩) else some (.ret,⟨2,[(6,true,.bool false)],⟨[],[]⟩⟩)
 |0,q,hd=>by
  obtain rfl:q=t:=by omega
  rw[bh (by rw[bc];omega)];refine⟨?fr,fun n m hm=>?g9⟩;case g9=>
   obtain⟨m,rfl⟩:=qNz m (by omega)
   rw[AB]
   simp[AD]
   rfl
 |d+1,q,hd=>by
  have hq:q<t:=by omega
  have hgq:q<G.length:=by omega
  have hsq:q<ss.length:=by omega
  have hw:=BS (k:=q) (by omega);have hlt:(q:Int)<(t:Int):=by omega
  have eq2:(AY G ss q).row=ss[q].1:=by simp[AY,bj,bk hsq]
  obtain⟨f0,b1,b2,b3,b4,b5,b6,b7,qi⟩:=AQD c G ss t q hG ht hq hs hf (hp q hq) hx (AY G ss q).size.toNat 0 (by omega);have qi:=fun n m=>qi n (m+100) (by
   have h2:=hf G[q] (bw hgq);have:(AY G ss q).size=G[q].2:=by simp[AY,bj,bk hgq]
   omega)
  rw[cq,<-ABP]at qi;obtain⟨fr,ih⟩:=A5H c G ss t hG ht hs hf hp hx d (q+1) (by omega);refine⟨fr,fun n m hm=>?_⟩;obtain⟨m,rfl⟩:=qNz m (by omega);have ih:=ih n m (by omega);rw[bq (by rw[bc];omega),bf,cw];have ef:TJ c (AY G ss t) (AY G ss q)=(decide (ss[q].1≠(AY G ss t).row)||!R5 c (AY G ss t) (AY G ss q)):=by unfold TJ;rw[eq2]
  rw[ef];generalize ((bz t).drop (q+1)).all (fun q=>TJ c (AY G ss t) (AY G ss q))=z at ih|-;generalize R5 c (AY G ss t) (AY G ss q)=z1 at *;generalize AY G ss t=X at *;rw[AB];simp only[AD]at ih qi|-;by_cases hr:ss[q].1=X.row
  ·have hr':decide (ss[q].1≠X.row)=false:=by simp[hr]
   rw[hr'];cases z1<;>cases z<;>(simp at ih qi;simp[hlt,hw,hgq,hsq,hr,qi,b1,b2,b3,b4,b5,b6,b7,A9,AJ,ih])
  ·have hr':decide (ss[q].1≠X.row)=true:=by simp[hr]
   rw[hr'];cases z<;>(simp at ih;simp[hlt,hw,hgq,hsq,hr,A9,AJ,ih])
def KK(c:AO)(G:List (Nat×Int))(ss:List (Int×Int))(t:Nat):Bool:=DN c (AY G ss t)&&(bz t).all fun q=>TJ c (AY G ss t) (AY G ss q)
theorem A5I(n:Nat)(c:AO)(h1:0<=c.beach.rows/\c.beach.rows<=1000)(h2:0<=c.beach.places/\c.beach.places<=1000)(G:List (Nat×Int))(ss:List (Int×Int))(t:Nat)(hG:ss.length<=G.length)(ht:t+1=ss.length)(hs:ss.length<=100)(hf:∀g∈G,g.1<c.fams.length/\0<=g.2/\g.2<=4)(hp:∀q,q<t->0<=(AY G ss q).place/\(AY G ss q).place<=1000):A3 db kn (AE db ann kn (n+1000)) 74 [.agg (AD c),.list false (G.map A9),.list false (ss.map AJ)]=some (.bool (KK c G ss t)):=by
 rw[AP rfl,AQ Tryz.func74 b74 rfl (by simp[AD,AH,AN,AJ,AW,BH,AS,A9])];have hgt:t<G.length:=by omega
 have hst:t<ss.length:=by omega
 have hf1:=hf G[t] (bw hgt);have e1:(AY G ss t).size=G[t].2:=by simp[AY,bj,bk hgt]
 have e2:(AY G ss t).row=ss[t].1:=by simp[AY,bj,bk hst]
 have e3:(AY G ss t).place=ss[t].2:=by simp[AY,bj,bk hst]
 have hlen:(ss.length:Int)=(t:Int)+1:=by omega
 have w0:IntKind.i64.wrap ((t:Int)+1-1)=(t:Int):=by rw[AV (by omega) (by omega)];omega
 have hlt0:¬((t:Int)+1<=(t:Int)):=by omega
 have w00:IntKind.i64.wrap (t:Int)=(t:Int):=AV (by omega) (by omega);have w1:IntKind.i64.wrap (c.beach.rows-1)=c.beach.rows-1:=AV (by omega) (by omega);have w2:IntKind.i64.wrap (c.beach.places-G[t].2)=c.beach.places-G[t].2:=AV (by omega) (by omega);have qi:=fun n=>kIn n ss[t].1 0 (c.beach.rows-1);unfold KK;have ef:DN c (AY G ss t)=(GR ss[t].1 0 (c.beach.rows-1)&&(!decide (ss[t].2<0)&&!decide (c.beach.places-G[t].2<ss[t].2))):=by unfold DN;rw[e1,e2,e3];congr 1;unfold GR;by_cases x1:ss[t].2<0<;>by_cases x2:c.beach.places-G[t].2<ss[t].2<;>simp[x1,x2]<;>omega
 have hp1:Nat.beq 2 1=false:=rfl;by_cases hfit:DN c (AY G ss t)=true
 ·have hx:0<=(AY G ss t).place/\(AY G ss t).place<=1000:=by simp only[DN,ck,DU]at hfit;omega
  obtain⟨fr,q⟩:=A5H c G ss t hG ht hs hf hp hx t 0 (by omega);have q:=fun n m=>q n (m+101) (by omega);rw[cq]at q;rw[hfit,cx];rw[ef]at hfit;simp only[ck,cz,decide_eq_false_iff_not]at hfit;obtain⟨f1,f2,f3⟩:=hfit;rw[f1]at qi;rw[e1,e2,e3]at q;generalize (bz t).all (fun q=>TJ c (AY G ss t) (AY G ss q))=z at *;simp only[AD]at q|-;cases z<;>(simp at q;simp[c74,AF,hlen,hgt,hst,hlt0,w0,w00,w1,w2,qi,f2,f3,A9,AJ,A0,BV,B8,BF,FD,EQ,DB,GU,hp1,q])
 ·have hfit:DN c (AY G ss t)=false:=by simpa using hfit
  rw[hfit,cp];rw[ef]at hfit;generalize GR ss[t].1 0 (c.beach.rows-1)=z1 at *;generalize x2:decide (ss[t].2<0)=z2 at *;generalize x3:decide (c.beach.places-G[t].2<ss[t].2)=z3 at *;simp only[AD];cases z1<;>cases z2<;>cases z3<;>first|(exact absurd hfit (by decide))|simp[c74,AF,hlen,hgt,hst,hlt0,w0,w00,w1,w2,qi,x2,x3,A9,AJ,A0,BV,B8,BF,FD,EQ,DB,GU,hp1]
end Go.Proofs.Tryz.Op
namespace Go.Wind
open Go.Proofs.Tryz.Op
def O0(c:AO)(G:List (Nat×Int))(ss:List (Int×Int)):Bool:=decide (ss.length=G.length)&&(decide (DL G<=(EC c:Int))&&(bz ss.length).all (KK c G ss))
theorem TK(c:AO)(f:Nat->Sp):∀n,FK c [] ((bz n).map f)=(bz n).all fun t=>DN c (f t)&&((bz t).map f).all (E1 c (f t))
 |0=>rfl
 |n+1=>by rw[List.range_succ,bg,ZT,TK c f n,List.all_append];simp[FK]
theorem gS{G:List (Nat×Int)}(hG:∀g∈G,1<=g.2/\g.2<=4){ss:List (Int×Int)}{t:Nat}(ht:t<G.length):1<=(AY G ss t).size:=by simp only[AY,bj,bk ht,dw];exact(hG _ (bw ht)).1
theorem nE{c:AO}{G:List (Nat×Int)}(hG:∀g∈G,1<=g.2/\g.2<=4){ss:List (Int×Int)}{t:Nat}(ht:t<G.length):KK c G ss t=(DN c (AY G ss t)&&((bz t).map (AY G ss)).all (E1 c (AY G ss t))):=by
 rw[<- tF (gS hG ht) fun y hy=>by
  obtain⟨q,hq,rfl⟩:=bp.1 hy;exact gS hG (by have:=cd.1 hq; omega)]
 unfold KK AEN TJ;rw[List.all_map];rfl
theorem Z6{G:List (Nat×Int)}{ss:List (Int×Int)}(_:ss.length<=G.length):∀{l:List Sp},l.length=ss.length->(∀j (h1:j<l.length),l[j]=AY G ss j)->l=(bz ss.length).map (AY G ss):=fun {l} h1 h2=>by apply List.ext_getElem (by simp[h1]);intro j g1 g2;rw[h2 j g1];simp
theorem nF{c:AO}{G:List (Nat×Int)}(hG:∀g∈G,1<=g.2/\g.2<=4)(ss:List (Int×Int)):O0 c G ss=(decide (ss.length=G.length)&&(decide (DL G<=(EC c:Int))&&FK c [] ((bz ss.length).map (AY G ss)))):=by
 unfold O0;by_cases h:ss.length=G.length
 ·congr 2;rw[TK];have:∀l:List Nat,(∀t∈l,t<G.length)->l.all (KK c G ss)=l.all fun t=>DN c (AY G ss t)&&((bz t).map (AY G ss)).all (E1 c (AY G ss t)):=fun l hl=>by
   induction l with
   |nil=>rfl
   |cons t l ih=>rw[bf,bf,ih fun x hx=>hl x (by simp[hx]),nE hG (hl t (by simp))]
  exact this _ fun t ht=>by have:=cd.1 ht;omega
 ·simp[h]
theorem IZ{c:AO}(hc:B7 c)(out:List Int):∀(k:Nat),k<=c.fams.length->∀g∈CA c.fams out k,g.1<c.fams.length/\1<=g.2/\g.2<=4
 |0,_,g,hg=>by cases hg
 |k+1,hk,g,hg=>by
  simp only[CA,List.mem_append]at hg;rcases hg with hg|hg
  ·exact IZ hc out k (by omega) g hg
  ·split at hg
   ·cases hg
   ·rw[List.mem_singleton]at hg;subst hg;have hk':k<c.fams.length:=by omega
    have e:c.fams.getD k ⟨0,0,false,false⟩=c.fams[k]:=by rw[bj,bk hk'];rfl
    have:=hc.fo _ (bw hk');simp only[e];exact⟨hk',this.1⟩
theorem RM{c:AO}:∀(k:Nat),k<=c.fams.length->DL (CA c.fams [] k)=((c.fams.take k).map K7.size).sum
 |0,_=>rfl
 |k+1,hk=>by
  have hk':k<c.fams.length:=by omega
  have e:c.fams.getD k ⟨0,0,false,false⟩=c.fams[k]:=by rw[bj,bk hk'];rfl
  have ih:=RM (c:=c) k (by omega);unfold DL at ih|-;simp only[CA,cg,decide_false,Bool.false_eq_true,if_false,e,bg,dj,ih];rw[bx hk',bg,dj];rfl
theorem kB{c:AO}(hc:B7 c)(ss:List (Int×Int)):O0 c (AR c []) ss=KG c ss:=by
 have hgl:(AR c []).length=c.fams.length:=DE c;have hgm:∀g∈AR c [],1<=g.2/\g.2<=4:=fun g hg=>(IZ hc [] _ (Nat.le_refl _) g hg).2;rw[nF hgm,hgl];unfold KG;by_cases h:ss.length=c.fams.length
 ·rw[decide_eq_true h,cx,cx];have hp:DL (AR c [])=FT (E2 c ss):=by rw[show FT (E2 c ss)=(c.fams.map K7.size).sum from TC h];have:=RM (c:=c) c.fams.length (Nat.le_refl _);rw[bm]at this;exact this
  have hl:E2 c ss=(bz ss.length).map (AY (AR c []) ss):=by
   refine Z6 (by omega) (by rw[show(E2 c ss).length=c.fams.length from KB h,h]) fun j h1=>?_;have hj:j<c.fams.length:=by rwa [show(E2 c ss).length=c.fams.length from KB h]at h1
   have e:=TD (k:=0) (fs:=c.fams) (ss:=ss) j hj (by omega) h1;rw[Nat.zero_add]at e;have hg:=ABL hj (by rw[hgl];exact hj);unfold AY;rw[bj,bj,bk (by rw[hgl];exact hj),bk (by omega:j<ss.length)];simp only[dw,hg];exact e
  unfold ZA;rw[hp,<-hl,Bool.and_comm]
 ·simp[h]
end Go.Wind
namespace Go.Proofs.Tryz.Op
def J2{α:Type}(l:List α):Bool:=!decide ((7:Int)<(l.length:Int))
def Z7(c:AO):Bool:=(YV c.beach&&(J2 c.plan&&(J2 c.chairs&&!decide ((5:Int)<(c.fams.length:Int)))))&&(c.plan.all J2&&c.chairs.all J2)
theorem ABQ{α:Type}{l:List α}:J2 l=true↔l.length<=7:=by simp only[J2,cz,decide_eq_false_iff_not];omega
theorem SA{c:AO}(h:Z7 c=true):YV c.beach=true/\c.plan.length<=7/\c.chairs.length<=7/\c.fams.length<=5/\(∀l∈c.plan,l.length<=7)/\∀l∈c.chairs,l.length<=7:=by simp only[Z7,ck,ABQ,List.all_eq_true,cz,decide_eq_false_iff_not]at h;exact⟨h.1.1,h.1.2.1,h.1.2.2.1,by omega,h.2.1,h.2.2⟩
theorem A5J(c:AO)(hl:c.plan.length<=100):∀(d k:Nat),k+d=c.plan.length->∃fr,BJ fr 1=some (true,.ptr 0 1 0 0) /\
  ∀n m,d<m->BI (AE db ann kn (n+100) 55) aH (ann 55 (BZ aH)) m ⟨1,[(1,true,.ptr 0 1 0 0),(3,true,i k)],⟨[],[(1,0,.box (AD c))]⟩⟩ =
   if (c.plan.drop k).all J2=true then some (.exit 0,⟨1,fr,⟨[],[(1,0,.box (AD c))]⟩⟩) else some (.ret,⟨1,[(2,true,.bool false)],⟨[],[]⟩⟩)
 |0,k,hk=>by
  have:k=c.plan.length:=by omega
  subst this;rw[cm];refine⟨?fr,?g1,fun n m hm=>?g2⟩;case g2=>
   obtain⟨m,rfl⟩:=qNz m (by omega)
   rw[AB]
   simp[AD]
   rfl
  case g1=>simp
 |d+1,k,hk=>by
  have hk':k<c.plan.length:=by omega
  have hw:=BS (k:=k) (by omega);obtain⟨fr,e1,ih⟩:=A5J c hl d (k+1) (by omega);rw[bq hk',bf];refine⟨fr,e1,fun n m hm=>?_⟩;obtain⟨m,rfl⟩:=qNz m (by omega);have ih:=ih n m (by omega);have es:J2 c.plan[k]=!decide ((7:Int)<(c.plan[k].length:Int)):=rfl;rw[es];generalize e1:decide ((7:Int)<(c.plan[k].length:Int))=z1;generalize (c.plan.drop (k+1)).all J2=z at ih|-;rw[AB];simp only[AD]at ih|-;cases z1<;>cases z<;>(simp at ih;simp[AN,hk',hw,e1,ih])
theorem A5K(c:AO)(hl:c.chairs.length<=100):∀(d k:Nat),k+d=c.chairs.length->∃fr,BJ fr 1=some (true,.ptr 0 1 0 0) /\
  ∀n m,d<m->BI (AE db ann kn (n+100) 55) aI (ann 55 (BZ aI)) m ⟨1,[(1,true,.ptr 0 1 0 0),(4,true,i k)],⟨[],[(1,0,.box (AD c))]⟩⟩ =
   if (c.chairs.drop k).all J2=true then some (.exit 2,⟨1,fr,⟨[],[(1,0,.box (AD c))]⟩⟩) else some (.ret,⟨1,[(2,true,.bool false)],⟨[],[]⟩⟩)
 |0,k,hk=>by
  have:k=c.chairs.length:=by omega
  subst this;rw[cm];refine⟨?fr,?g1,fun n m hm=>?g2⟩;case g2=>
   obtain⟨m,rfl⟩:=qNz m (by omega)
   rw[AB]
   simp[AD]
   rfl
  case g1=>simp
 |d+1,k,hk=>by
  have hk':k<c.chairs.length:=by omega
  have hw:=BS (k:=k) (by omega);obtain⟨fr,e1,ih⟩:=A5K c hl d (k+1) (by omega);rw[bq hk',bf];refine⟨fr,e1,fun n m hm=>?_⟩;obtain⟨m,rfl⟩:=qNz m (by omega);have ih:=ih n m (by omega);have es:J2 c.chairs[k]=!decide ((7:Int)<(c.chairs[k].length:Int)):=rfl;rw[es];generalize e1:decide ((7:Int)<(c.chairs[k].length:Int))=z1;generalize (c.chairs.drop (k+1)).all J2=z at ih|-;rw[AB];simp only[AD]at ih|-;cases z1<;>cases z<;>(simp at ih;simp[AW,hk',hw,e1,ih])
theorem ATV(n:Nat)(c:AO):A3 db kn (AE db ann kn (n+1400)) 18 [.agg (AD c)]=some (.bool (Z7 c)):=by
 rw[AP rfl,AQ Tryz.func18 b18 rfl (by simp[AD,AH,AN,AJ,AW,BH,AS])];have qT:=fun n=>BDL n c.beach;unfold Z7;have es:J2 c.plan=!decide ((7:Int)<(c.plan.length:Int)):=rfl;have et:J2 c.chairs=!decide ((7:Int)<(c.chairs.length:Int)):=rfl;rw[es,et];generalize e1:decide ((7:Int)<(c.plan.length:Int))=z1;generalize e2:decide ((7:Int)<(c.chairs.length:Int))=z2;generalize e3:decide ((5:Int)<(c.fams.length:Int))=z3;generalize YV c.beach=z4 at *;simp only[AC]at qT;by_cases h:z4=true/\z1=false/\z2=false/\z3=false
 ·obtain⟨rfl,rfl,rfl,rfl⟩:=h;have h1:=of_decide_eq_false e1;have h2:=of_decide_eq_false e2;obtain⟨f1,g1,q1⟩:=A5J c (by omega) c.plan.length 0 (by omega);obtain⟨f2,g2,q2⟩:=A5K c (by omega) c.chairs.length 0 (by omega);have q1:=fun n m=>q1 n (m+100) (by omega);have q2:=fun n m=>q2 n (m+100) (by omega);rw[cq]at q1 q2;generalize c.plan.all J2=y1 at *;generalize c.chairs.all J2=y2 at *;simp only[AD]at q1 q2|-;cases y1<;>cases y2<;>(simp at q1 q2;simp[c18,AF,qT,e1,e2,e3,q1,q2,g1,g2,AW,BH,AS,AJ,AN,AH])
 ·simp only[AD]at|-;cases z4<;>cases z1<;>cases z2<;>cases z3<;>first|exact absurd ⟨rfl,rfl,rfl,rfl⟩ h|simp[c18,AF,qT,e1,e2,e3,AW,BH,AS,AJ,AN,AH]
theorem A5L{k:Nat}(hk:k<=100000)(q g n:Nat):B5 db 22 k [[.vec 0 q g n]]=true:=by rw[B9 (by simp) (by simp)];simp[maxLen];omega
theorem ALI(l k:Nat)(o:Option (Nat×AZ))(ls:List (List Int)):(ls.map AN).map (dz (BK l k o 3))=ls.map AN:=by rw[dv];exact cj fun x _=>rfl
theorem A5M(ls:List (List Int)):(ls.map AN).map (dz mU)=ls.map AN:=by rw[dv];exact cj fun x _=>rfl
theorem SB(k γ:Nat)(h:List V)(t:List (List V)):pv k γ (h::t)=.vec 0 k γ (t.length+1):=rfl
theorem slN:sl []=.nil:=rfl
theorem slC(e:List V)(es:List (List V)):sl (e::es)=.list false (e::es):=rfl
theorem QF(l k:Nat)(o:Option (Nat×AZ))(f:Nat)(es:List (List V)):BK l k o f (sl es)=sl es:=by cases f<;>cases es<;>rfl
theorem ATW(ls:List (List Int))(h1:ls.length<=100)(h2:∀l∈ls,l.length<=100):∀(d k c γ:Nat),k+d=ls.length->∃fr c' γ',fr=[(8,true,V.bool false),(7,true,i ls.length),(6,true,HU ls),(5,true,i ls.length),(0,true,HU ls),(3,true,pv 18 γ' (ls.map AN)),(4,true,i ls.length)]/\∀n m,d<m->BI (AE db ann kn (n+200) 20) aJ (ann 20 (BZ aJ)) m ⟨c,[(0,true,HU ls),(3,true,pv 18 γ ((ls.take k).map AN)),(4,true,i k)],⟨[],pl 18 γ 22 ((ls.take k).map AN)⟩⟩ =
  some (.exit 0,⟨c',fr,⟨[],pl 18 γ' 22 (ls.map AN)⟩⟩)
 |0,k,c,γ,hk=>by
  have:k=ls.length:=by omega
  subst this;rw[bm];refine⟨_,c,γ,rfl,fun n m hm=>?_⟩;obtain⟨m,rfl⟩:=qNz m (by omega);rw[AB];simp
 |d+1,k,c,γ,hk=>by
  have hk':k<ls.length:=by omega
  have hw:=BS (k:=k) (by omega);have h3:=h2 _ (bw hk');have hst:(ls.take (k+1)).map AN=(ls.take k).map AN++[AN ls[k]]:=by rw[bx hk',bg];rfl
  have hRl:((ls.take k).map AN).length=k:=by rw[cn,bn];omega
  have hto:=fun o=>ALI 0 16 o (ls.take k);have hR1:∀e∈(ls.take k).map AN,e.length=1:=fun e he=>by obtain⟨l,_,rfl⟩:=bp.1 he;rfl
  have hwk:=A5M (ls.take k);have ha:=fun q g n=>A5L (k:=((ls.take k).map AN).length) (by omega) q g n;have hai:=BDH (k:=0) (l:=ls[k]) (by omega);generalize hLk:ls[k]=L at *;cases L with
  |nil=>
   obtain⟨fr,c',γ',e1,ih⟩:=ATW ls h1 h2 d (k+1) (c+1+1) (c+1) (by omega)
   refine⟨fr,c',γ',e1,fun n m hm=>?_⟩
   obtain⟨m,rfl⟩:=qNz m (by omega)
   have ih:=ih n m (by omega)
   rw[hst]at ih
   generalize ls.map AN=fin at *
   generalize (ls.take k).map AN=R at *
   rw[AB]
   simp[AN]at hai
   cases R with
   |nil=>simp[AN,li,SB]at ih ha;simp[show c+1+1=c+2 from rfl,hk',hw,hLk,AN,AH,ha,hai,ih,A0,DB,GU,EV,BV,B8,BF,FD,EQ]
   |cons r R=>
    have hR2:=hR1 r (by simp)
    have hR3:=eq_true (fun e he=>hR1 e (bb r he):∀e∈R,e.length=1)
    simp[AN,li,SB]at ih ha hto hwk
    simp[show c+1+1=c+2 from rfl,hk',hw,hLk,AN,AH,ha,hai,ih,hto,hwk,hR2,hR3,QF,SB,A0,DB,GU,EV,BV,B8,BF,FD,EQ]
  |cons x L=>
   obtain⟨fr,c',γ',e1,ih⟩:=ATW ls h1 h2 d (k+1) (c+1+1) (c+1) (by omega)
   refine⟨fr,c',γ',e1,fun n m hm=>?_⟩
   obtain⟨m,rfl⟩:=qNz m (by omega)
   have ih:=ih n m (by omega)
   rw[hst]at ih
   generalize ls.map AN=fin at *
   generalize (ls.take k).map AN=R at *
   rw[AB]
   simp[AN,AH]at hai
   cases R with
   |nil=>simp[AN,AH,li,SB]at ih ha;simp[show c+1+1=c+2 from rfl,hk',hw,hLk,AN,AH,ha,hai,ih,A0,DB,GU,EV,BV,B8,BF,FD,EQ]
   |cons r R=>
    have hR2:=hR1 r (by simp)
    have hR3:=eq_true (fun e he=>hR1 e (bb r he):∀e∈R,e.length=1)
    simp[AN,AH,li,SB]at ih ha hto hwk
    simp[show c+1+1=c+2 from rfl,hk',hw,hLk,AN,AH,ha,hai,ih,hto,hwk,hR2,hR3,QF,SB,A0,DB,GU,EV,BV,B8,BF,FD,EQ]
theorem ALJ(n:Nat)(ls:List (List Int))(h1:ls.length<=100)(h2:∀l∈ls,l.length<=100):A3 db kn (AE db ann kn (n+400)) 69 [HU ls]=some (sl (ls.map AN)):=by rw[AP rfl,AQ Tryz.func69 b69 rfl (by simp[AH,AN])];obtain⟨fr,c',γ',e1,q⟩:=ATW ls h1 h2 ls.length 0 0 0 (by omega);have q:=fun n m=>q n (m+200) (by omega);simp at q e1;simp[c69,AF,q,e1,AN,AH]
theorem A5N{k:Nat}{g:Nat×Int}(h:k<=1000):B5 db 135 k [[i (g.1:Int),i g.2]]=true:=by rw[B9 (by simp) (by simp)];simp[maxLen];omega
theorem ABR{x N j:Nat}:((j:Int)∈C9 x N)↔j<N/\x.testBit j=true:=by
 unfold C9;rw[bp];constructor
 ·rintro ⟨i,hi,e⟩;rw[List.mem_filter,cd]at hi;have:i=j:=by omega
  subst this;exact hi
 ·intro h;exact⟨j,by rw[List.mem_filter,cd];exact h,rfl⟩
theorem AFC(x j:Nat):decide ((((x / 2 ^ j:Nat):Int).tmod 2)=0)=!x.testBit j:=by rw[<-ANF];have h:=Int.tmod_eq_emod_of_nonneg (a:=((x / 2 ^ j:Nat):Int)) (b:=2) (Int.natCast_nonneg _);rw[h];rcases Int.emod_two_eq ((x / 2 ^ j:Nat):Int)with h|h<;>rw[h]<;>rfl
def JC(c:AO)(x:Nat):List (Nat×Int):=AR c (C9 x c.fams.length)
theorem ATX(c:AO)(hl:c.fams.length<=30)(x:Nat):∀(d k g γ:Nat),k+d=c.fams.length->0<g->∃g' γ' fr,BJ fr 5=some (true,pv 30 γ' ((JC c x).map A9)) /\
  ∀n m,d<m->BI (AE db ann kn (n+100) 32) aK (ann 32 (BZ aK)) m ⟨g,[(1,true,i x),(2,true,.ptr 0 2 0 0),(5,true,pv 30 γ ((CA c.fams (C9 x c.fams.length) k).map A9)),(6,true,i k)],⟨[],(2,0,.box (AD c))::pl 30 γ 135 ((CA c.fams (C9 x c.fams.length) k).map A9)⟩⟩ =
   some (.exit 0,⟨g',fr,⟨[],(2,0,.box (AD c))::pl 30 γ' 135 ((JC c x).map A9)⟩⟩)
 |0,k,g,γ,hk,hg=>by
  obtain rfl:k=c.fams.length:=by omega
  have e:CA c.fams (C9 x c.fams.length) c.fams.length=JC c x:=rfl;rw[e];generalize JC c x=R;refine⟨g,γ,?fr,?g1,fun n m hm=>?g2⟩;case g2=>
   obtain⟨m,rfl⟩:=qNz m (by omega)
   rw[AB]
   simp[AD]
   rfl
  case g1=>simp
 |d+1,k,g,γ,hk,hg=>by
  have hk':k<c.fams.length:=by omega
  have hw:=BS (k:=k) (by omega);have hgl:=OX c.fams (C9 x c.fams.length) k;have hf:c.fams.getD k ⟨0,0,false,false⟩=c.fams[k]:=by rw[bj,bk hk'];rfl
  have hst:CA c.fams (C9 x c.fams.length) (k+1)=CA c.fams (C9 x c.fams.length) k++(if decide ((k:Int)∈C9 x c.fams.length)=true then[] else[(k,c.fams[k].size)]):=by rw[<-hf];rfl
  have hin:decide ((k:Int)∈C9 x c.fams.length)=x.testBit k:=by rw[Bool.eq_iff_iff,decide_eq_true_eq,ABR];exact⟨fun h=>h.2,fun h=>⟨hk',h⟩⟩
  have happ:=A5N (k:=(CA c.fams (C9 x c.fams.length) k).length) (g:=(k,c.fams[k].size)) (by omega);have e1:=AZI (x:=x) (j:=k) (by omega);have e2:=AD2 (p:=k) (by omega);have hb:=AFC x k;rw[hin]at hst;have hp1:Nat.beq 2 1=false:=rfl;generalize ((x / 2 ^ k:Nat):Int)=X at e1 hb;cases hbit:x.testBit k with
  |true=>
   rw[hbit]at hb hst
   rw[if_pos rfl,List.append_nil]at hst
   obtain⟨g',γ',fr,q1,ih⟩:=ATX c hl x d (k+1) g γ (by omega) hg
   refine⟨g',γ',fr,q1,fun n m hm=>?_⟩
   obtain⟨m,rfl⟩:=qNz m (by omega)
   have ih:=ih n m (by omega)
   rw[hst]at ih
   generalize CA c.fams (C9 x c.fams.length) k=R at *
   rw[AB]
   simp only[AD]at ih|-
   simp at hb
   cases R<;>(simp at ih;simp[hk',hw,wO,e1,e2,-V4,hb,ih])
  |false=>
   rw[hbit]at hb hst
   rw[if_neg (by decide)]at hst
   obtain⟨g',γ',fr,q1,ih⟩:=ATX c hl x d (k+1) (g+1) g (by omega) (by omega)
   refine⟨g',γ',fr,q1,fun n m hm=>?_⟩
   obtain⟨m,rfl⟩:=qNz m (by omega)
   have ih:=ih n m (by omega)
   rw[hst]at ih
   generalize CA c.fams (C9 x c.fams.length) k=R at *
   rw[AB]
   simp only[AD]at ih|-
   simp at hb
   cases R with
   |nil=>simp[A9,SB]at ih happ;simp[hk',hw,wO,e1,e2,-V4,hb,happ,AS,A9,SB,hp1,ih,A0,DB,GU,EV,BV,B8,BF,FD,EQ]
   |cons r R=>simp[A9,SB]at ih happ;simp[hk',hw,wO,e1,e2,-V4,hb,happ,AS,A9,SB,hp1,ih,A0,DB,GU,EV,BV,B8,BF,FD,EQ]
theorem AFD(n:Nat)(c:AO)(hl:c.fams.length<=30)(x:Nat):A3 db kn (AE db ann kn (n+200)) 26 [.agg (AD c),i x]=some (sl ((JC c x).map A9)):=by
 rw[AP rfl,AQ Tryz.func26 b26 rfl (by simp[AD,AH,AN,AJ,AW,BH,AS])];obtain⟨g',γ',fr,e1,q⟩:=ATX c hl x c.fams.length 0 1 0 (by omega) (by omega);have q:=fun n m=>q n (m+100) (by omega);have e0:CA c.fams (C9 x c.fams.length) 0=[]:=rfl;rw[e0]at q;have hcl:∀e∈(JC c x).map A9,∀v∈e,AG 8 v=true:=fun e he v hv=>by obtain⟨l,_,rfl⟩:=bp.1 he;simp only[A9,dx,cg,or_false]at hv;rcases hv with rfl|rfl<;>rfl
 generalize (JC c x).map A9=R at *;simp only[AD]at q|-;simp at q e1;simp[c26,AF,q,e1];exact hcl
theorem WI{G:List (Nat×Int)}{ss:List (Int×Int)}{j q:Nat}(h:q<j):AY G (ss.take j) q=AY G ss q:=by unfold AY;rw[bj,bj,bj,List.getElem?_take_of_lt h]
theorem tL{c:AO}{G:List (Nat×Int)}{ss:List (Int×Int)}{t:Nat}:KK c G (ss.take (t+1)) t=KK c G ss t:=by
 unfold KK;rw[WI (by omega)];congr 1;have:∀l:List Nat,(∀q∈l,q<t)->l.all (fun q=>TJ c (AY G ss t) (AY G (ss.take (t+1)) q))=l.all fun q=>TJ c (AY G ss t) (AY G ss q):=fun l hl=>by
  induction l with
  |nil=>rfl
  |cons x l ih=>rw[bf,bf,ih fun y hy=>hl y (by simp[hy]),WI (by have:=hl x (by simp);omega)]
 exact this _ fun q hq=>cd.1 hq
theorem X0{s:St}(l:List (Int×Int)){j:Nat}(hj:j<=l.length):CD db s 24 (.list false (l.map AJ)) none (some (i j)) none=some (.list false ((l.map AJ).take j)):=by have:=eN (P:=db) (s:=s) (T:=24) (e:=59) (es:=l.map AJ) (h:=(j:Int)) (b:=false) (by kernel_rfl) (by simp) (by omega) (by rw[cn];omega);simpa using this
theorem SD{P:Program}{s:St}{r:Operand->Option V}(T:TypeId)(x h:Operand):JX P (mW (.slice T x none (some h) none)) s r=(r x).bind fun a=>(r h).bind fun c=>CD P s T a none (some c) none:=by show((r x).bind fun a=>(some none).bind fun l=>((r h).map some).bind fun h=>(some none).bind fun m=>CD P s T a l h m)=_;cases r x<;>cases r h<;>rfl
theorem A5O(c:AO)(h1:0<=c.beach.rows/\c.beach.rows<=1000)(h2:0<=c.beach.places/\c.beach.places<=1000)(G:List (Nat×Int))(ss:List (Int×Int))(hG:ss.length=G.length)(hs:ss.length<=100)(hf:∀g∈G,g.1<c.fams.length/\0<=g.2/\g.2<=4):∀(d k:Nat),k+d=ss.length->(∀q,q<k->KK c G ss q=true)->∃fr,
  ∀n m,d<m->BI (AE db ann kn (n+1200) 34) aL (ann 34 (BZ aL)) m ⟨1,[(1,true,.list false (G.map A9)),(2,true,.list false (ss.map AJ)),(3,true,.ptr 0 3 0 0),(7,true,i k)],⟨[],[(3,0,.box (AD c))]⟩⟩ =
   if ((bz ss.length).drop k).all (KK c G ss)=true then some (.exit 0,⟨1,fr,⟨[],[(3,0,.box (AD c))]⟩⟩) else some (.ret,⟨1,[(6,true,.bool false)],⟨[],[]⟩⟩)
 |0,k,hd,_=>by
  obtain rfl:k=ss.length:=by omega
  rw[bh (by rw[bc];omega)];refine⟨?fr,fun n m hm=>?g9⟩;case g9=>
   obtain⟨m,rfl⟩:=qNz m (by omega)
   rw[AB]
   simp[AD]
   rfl
 |d+1,k,hd,hok=>by
  have hk:k<ss.length:=by omega
  have hw:=BS (k:=k) (by omega);have qsl:=fun s=>X0 (s:=s) ss (show k+1<=ss.length by omega);have hlt:(ss.take (k+1)).length=k+1:=by rw[bn];omega
  have hp:∀q,q<k->0<=(AY G (ss.take (k+1)) q).place/\(AY G (ss.take (k+1)) q).place<=1000:=fun q hq=>by
   rw[WI (by omega)];have h:=hok q hq;simp only[KK,DN,ck,DU]at h;have hg:q<G.length:=by omega
   have hsz:0<=(AY G ss q).size:=by simp only[AY,bj,bk hg,dw];exact(hf _ (bw hg)).2.1
   omega
  have qS:=fun n=>A5I n c h1 h2 G (ss.take (k+1)) k (by rw[hlt];omega) (by rw[hlt]) (by rw[hlt];omega) hf hp;rw[tL]at qS;rw[bq (by rw[bc];omega),bf,cw];cases hz:KK c G ss k with
  |false=>
   rw[hz]at qS
   refine⟨[],fun n m hm=>?_⟩
   obtain⟨m,rfl⟩:=qNz m (by omega)
   rw[AB]
   simp only[AD]at qS|-
   simp[<-ct]at qsl
   simp[<-ct,hk,hw,qsl,qS,AJ,A9,AW,BH,AS,SD,R9,FP]
  |true=>
   rw[hz]at qS
   obtain⟨fr,ih⟩:=A5O c h1 h2 G ss hG hs hf d (k+1) (by omega) (fun q hq=>by
    by_cases e:q=k
    ·rw[e];exact hz
    ·exact hok q (by omega))
   refine⟨fr,fun n m hm=>?_⟩
   obtain⟨m,rfl⟩:=qNz m (by omega)
   have ih:=ih n m (by omega)
   generalize ((bz ss.length).drop (k+1)).all (KK c G ss)=z at ih|-
   rw[AB]
   simp only[AD]at qS ih|-
   simp[<-ct]at qsl
   cases z<;>(simp at ih;simp[<-ct,hk,hw,qsl,qS,AJ,A9,AW,BH,AS,SD,R9,FP,ih])
theorem tM(n:Nat)(c:AO)(h1:0<=c.beach.rows/\c.beach.rows<=1000)(h2:0<=c.beach.places/\c.beach.places<=1000)(hch:c.chairs.length<=100)(hcr:∀l∈c.chairs,l.length<=100)(G:List (Nat×Int))(hG:G.length<=100)(ss:List (Int×Int))(hf:∀g∈G,g.1<c.fams.length/\0<=g.2/\g.2<=4):A3 db kn (AE db ann kn (n+1600)) 25 [.agg (AD c),.list false (G.map A9),.list false (ss.map AJ)]=some (.bool (O0 c G ss)):=by
 rw[AP rfl,AQ Tryz.func25 b25 rfl (by simp[AD,AH,AN,AJ,AW,BH,AS,A9])];have qP:=fun n=>ALG n G hG (fun g hg=>(hf g hg).2);have qC:=fun n=>AFB n c hch hcr;unfold O0;by_cases hl:ss.length=G.length
 ·have hl':(ss.length:Int)=(G.length:Int):=by omega
  obtain⟨fr,q⟩:=A5O c h1 h2 G ss hl (by omega) hf ss.length 0 (by omega) (fun q hq=>by omega);have q:=fun n m=>q n (m+101) (by omega);rw[cq]at q;rw[decide_eq_true hl,cx];generalize (bz ss.length).all (KK c G ss)=z at *;generalize DL G=PG at *;generalize EC c=CN at *;by_cases hp:PG<=(CN:Int)
  ·have hp':¬(CN:Int)<PG:=by omega
   rw[decide_eq_true hp,cx];simp only[AD]at q qP qC|-;cases z<;>(simp at q;simp[c25,AF,hl',qP,qC,hp',q,DB,AJ,A9,AW,BH,AS])
  ·have hp':(CN:Int)<PG:=by omega
   rw[decide_eq_false hp,cp];simp only[AD]at q qP qC|-;simp[c25,AF,hl',qP,qC,hp',DB,AJ,A9,AW,BH,AS]
 ·have hl':¬(ss.length:Int)=(G.length:Int):=by omega
  rw[decide_eq_false hl,cp];simp only[AD]at qP qC|-;simp[c25,AF,hl',DB,AJ,A9,AW,BH,AS]
theorem AQE(c:AO)(hl:c.chairs.length<=100):∀(d k:Nat),k+d=c.chairs.length->∃fr,BJ fr 1=some (true,.ptr 0 1 0 0) /\
  ∀n m,d<m->BI (AE db ann kn (n+100) 76) UP (ann 76 (BZ UP)) m ⟨1,[(1,true,.ptr 0 1 0 0),(4,true,i k)],⟨[],[(1,0,.box (AD c))]⟩⟩ =
   if (c.chairs.drop k).all (fun l=>decide ((l.length:Int)=c.beach.places))=true then some (.exit 0,⟨1,fr,⟨[],[(1,0,.box (AD c))]⟩⟩) else some (.ret,⟨1,[(2,true,i 1)],⟨[],[]⟩⟩)
 |0,k,hk=>by
  have:k=c.chairs.length:=by omega
  subst this;rw[cm];refine⟨?fr,?g1,fun n m hm=>?g2⟩;case g2=>
   obtain⟨m,rfl⟩:=qNz m (by omega)
   rw[AB]
   simp[AD]
   rfl
  case g1=>simp
 |d+1,k,hk=>by
  have hk':k<c.chairs.length:=by omega
  have hw:=BS (k:=k) (by omega);obtain⟨fr,e1,ih⟩:=AQE c hl d (k+1) (by omega);rw[bq hk',bf];refine⟨fr,e1,fun n m hm=>?_⟩;obtain⟨m,rfl⟩:=qNz m (by omega);have ih:=ih n m (by omega);generalize e1:decide ((c.chairs[k].length:Int)=c.beach.places)=z1;generalize (c.chairs.drop (k+1)).all (fun l=>decide ((l.length:Int)=c.beach.places))=z at ih|-;rw[AB];simp only[AD]at ih|-;cases z1<;>cases z<;>(simp at ih;simp[AW,hk',hw,e1,ih])
theorem AQF(c:AO)(hl:c.fams.length<=100):∀(d k:Nat),k+d=c.fams.length->∃fr,
  ∀n m,d<m->BI (AE db ann kn (n+200) 76) UQ (ann 76 (BZ UQ)) m ⟨1,[(1,true,.ptr 0 1 0 0),(5,true,i k)],⟨[],[(1,0,.box (AD c))]⟩⟩ =
   if (c.fams.drop k).all LH=true then some (.exit 2,⟨1,fr,⟨[],[(1,0,.box (AD c))]⟩⟩) else some (.ret,⟨1,[(2,true,i 1)],⟨[],[]⟩⟩)
 |0,k,hk=>by
  have:k=c.fams.length:=by omega
  subst this;rw[cm];refine⟨?fr,fun n m hm=>?g2⟩;case g2=>
   obtain⟨m,rfl⟩:=qNz m (by omega)
   rw[AB]
   simp[AD]
   rfl
 |d+1,k,hk=>by
  have hk':k<c.fams.length:=by omega
  have hw:=BS (k:=k) (by omega);obtain⟨fr,ih⟩:=AQF c hl d (k+1) (by omega);rw[bq hk',bf];refine⟨fr,fun n m hm=>?_⟩;obtain⟨m,rfl⟩:=qNz m (by omega);have ih:=ih n m (by omega);have ef:LH c.fams[k]=(GR c.fams[k].size 1 4&&GR c.fams[k].good 0 5):=rfl;have q1:=fun n=>kIn n c.fams[k].size 1 4;have q2:=fun n=>kIn n c.fams[k].good 0 5;rw[ef];generalize GR c.fams[k].size 1 4=z1 at *;generalize GR c.fams[k].good 0 5=z2 at *;generalize (c.fams.drop (k+1)).all LH=z at ih|-;rw[AB];simp only[AD]at ih|-;cases z1<;>cases z2<;>cases z<;>(simp at ih;simp[AS,hk',hw,q1,q2,ih])
theorem ALK(n:Nat)(c:AO)(hw:∀l∈c.beach.winds,l.length<=100)(hp:c.plan.length<=100)(hch:c.chairs.length<=100):A3 db kn (AE db ann kn (n+2400)) 70 [.agg (AD c)]=some (i (F4 c)):=by
 rw[AP rfl,AQ Tryz.func70 b70 rfl (by simp[AD,AH,AN,AJ,AW,BH,AS])];have qf:=fun n=>AKS n c.beach hw;unfold F4;by_cases a1:3<c.fams.length
 ·have e1:(3:Int)<(c.fams.length:Int):=by omega
  rw[if_pos a1];simp only[AD];simp[c70,AF,e1]
 rw[if_neg a1];have e1:¬(3:Int)<(c.fams.length:Int):=by omega
 by_cases a2:D7 c.beach≠0
 ·rw[if_pos a2];simp only[AD,AC]at qf|-;simp[c70,AF,e1,qf,a2,AN,AH,AJ]
 rw[if_neg a2];have a2:D7 c.beach=0:=by simpa using a2
 have hb:=U1 a2;have qp:=fun n=>AKK n c.beach hb c.plan hp;have qt:=fun n=>gU n c.beach hb;rw[a2]at qf;by_cases a3:EX c.beach c.plan=false
 ·rw[if_pos a3];rw[a3]at qp;simp only[AD,AC]at qf qp|-;simp[c70,AF,e1,qf,qp,AN,AH,AJ]
 rw[if_neg a3];have a3:EX c.beach c.plan=true:=by simpa using a3
 rw[a3]at qp;by_cases a4:BR c.beach=[]
 ·rw[if_pos a4];rw[a4]at qt;simp only[AD,AC]at qf qp qt|-;simp at qt;simp[c70,AF,e1,qf,qp,qt,AN,AH,AJ]
 rw[if_neg a4];have a4':¬((BR c.beach).length:Int)=0:=fun h=>a4 (List.eq_nil_of_length_eq_zero (by omega));by_cases a5:(c.chairs.length:Int)=c.beach.rows
 ·have ec:HV c=c.chairs.all (fun l=>decide ((l.length:Int)=c.beach.places)):=by unfold HV;rw[decide_eq_true a5,cx]
  rw[ec];obtain⟨f1,g1,q1⟩:=AQE c hch c.chairs.length 0 (by omega);obtain⟨f2,q2⟩:=AQF c (by omega) c.fams.length 0 (by omega);have q1:=fun n m=>q1 n (m+101) (by omega);have q2:=fun n m=>q2 n (m+101) (by omega);rw[cq]at q1 q2;generalize c.chairs.all (fun l=>decide ((l.length:Int)=c.beach.places))=y1 at *;generalize c.fams.all LH=y2 at *;generalize BR c.beach=T at *;simp only[AD,AC]at qf qp qt q1 q2|-;cases y1<;>cases y2<;>(simp at q1 q2;simp[c70,AF,e1,qf,qp,qt,a4,a4',a5,q1,q2,g1,AN,AH,AJ])
 ·have ec:HV c=false:=by unfold HV;rw[decide_eq_false a5,cp]
  rw[if_pos ec];generalize BR c.beach=T at *;simp only[AD,AC]at qf qp qt|-;simp[c70,AF,e1,qf,qp,qt,a4,a4',a5,AN,AH,AJ]
theorem ALL(l k:Nat)(o:Option (Nat×AZ))(ls:List (List Bool)):(ls.map AW).map (dz (BK l k o 3))=ls.map AW:=by rw[dv];exact cj fun x _=>rfl
theorem A5P(ls:List (List Bool)):(ls.map AW).map (dz mU)=ls.map AW:=by rw[dv];exact cj fun x _=>rfl
theorem MG{P:Program}{fr:Fr}{s:St}(e d c:Nat)(ys:List (List V))(h:B5 P e 0 ys=true):wL P e d c fr s .nil ys=some (⟨c+1,(d,true,.vec s.up.length d c ys.length)::fr,s.put s.up.length d c (.vec e ys)⟩,[(s.up.length,d),(s.up.length,d+GU)]):=by unfold wL;simp[I5,h]
theorem A5Q{k:Nat}{l:List Bool}(h:k+l.length<=100000):B5 db 4 k (l.map BH)=true:=by rw[B9 (by simp) (by simp)];simp[maxLen,BH];omega
theorem A5R{k:Nat}(hk:k<=100000)(q g n:Nat):B5 db 97 k [[.vec 0 q g n]]=true:=by rw[B9 (by simp) (by simp)];simp[maxLen];omega
theorem A5S{k:Nat}{l:List K7}(h:k+l.length<=100000):B5 db 94 k (l.map AS)=true:=by rw[B9 (by simp) (by simp)];simp[maxLen,AS];omega
abbrev bxC(b:AM)(p:List (List Int))(v w:V):AZ:=.box (JA b++[sl (p.map AN),v,w])
theorem ATY(c:AO)(h1:c.chairs.length<=100)(h2:∀l∈c.chairs,l.length<=100)(cs2:List V)(hcs:∀o,cs2.map (BK 0 28 o 3)=cs2):∀(d k g γ:Nat),k+d=c.chairs.length->2<g->∃g' γ',g<=g'/\∀n m,d<m->BI (AE db ann kn (n+200) 59) aX (ann 59 (BZ aX)) m ⟨g,[(1,true,.ptr 0 1 0 0),(2,true,.ptr 0 2 1 0),(3,true,.ptr 0 3 2 0),(4,true,i k)],⟨[],(1,0,.box (AD c))::(2,1,.box cs2)::(3,2,bxC c.beach c.plan (pv 30 γ ((c.chairs.take k).map AW)) .nil)::pl 30 γ 97 ((c.chairs.take k).map AW)⟩⟩ =
  some (.exit 0,⟨g',[(18,true,.bool false),(17,true,i c.chairs.length),(16,true,.list false (c.chairs.map AW)),(15,true,.ptr 0 1 0 10),(14,true,i c.chairs.length),(1,true,.ptr 0 1 0 0),(2,true,.ptr 0 2 1 0),(3,true,.ptr 0 3 2 0),(4,true,i c.chairs.length)],⟨[],(1,0,.box (AD c))::(2,1,.box cs2)::(3,2,bxC c.beach c.plan (pv 30 γ' (c.chairs.map AW)) .nil)::pl 30 γ' 97 (c.chairs.map AW)⟩⟩)
 |0,k,g,γ,hk,hg=>by
  have:k=c.chairs.length:=by omega
  subst this;rw[bm];refine⟨g,γ,Nat.le_refl _,fun n m hm=>?_⟩;obtain⟨m,rfl⟩:=qNz m (by omega);rw[AB];simp only[AD,bxC,JA];cases c.chairs<;>simp
 |d+1,k,g,γ,hk,hg=>by
  have hk':k<c.chairs.length:=by omega
  have hw:=BS (k:=k) (by omega);have h3:=h2 _ (bw hk');have hst:(c.chairs.take (k+1)).map AW=(c.chairs.take k).map AW++[AW c.chairs[k]]:=by rw[bx hk',bg];rfl
  have hRl:((c.chairs.take k).map AW).length=k:=by rw[cn,bn];omega
  have hto:=fun o=>ALL 0 28 o (c.chairs.take k);have hwk:=A5P (c.chairs.take k);have hR1:∀e∈(c.chairs.take k).map AW,e.length=1:=fun e he=>by obtain⟨l,_,rfl⟩:=bp.1 he;rfl
  have ha:=fun q g n=>A5R (k:=((c.chairs.take k).map AW).length) (by omega) q g n;have hai:=A5Q (k:=0) (l:=c.chairs[k]) (by omega);generalize hLk:c.chairs[k]=L at *;cases L with
  |nil=>
   obtain⟨g',γ',hgg,ih⟩:=ATY c h1 h2 cs2 hcs d (k+1) (g+1+1) (g+1) (by omega) (by omega)
   refine⟨g',γ',by omega,fun n m hm=>?_⟩
   obtain⟨m,rfl⟩:=qNz m (by omega)
   have ih:=ih n m (by omega)
   rw[hst]at ih
   generalize (c.chairs.take k).map AW=R at *
   rw[AB]
   simp only[AD,bxC,JA]at ih|-
   simp[AW]at hai
   cases R with
   |nil=>simp[AW,lb,SB]at ih ha;simp[show g+1+1=g+2 from rfl,hk',hw,hLk,AW,BH,ha,hai,hcs,QF,ih,A0,DB,GU,MG,BV,B8,BF,FD,EQ,show 2<g+2 by omega]
   |cons r R=>
    have hR2:=hR1 r (by simp)
    have hR3:=eq_true (fun e he=>hR1 e (bb r he):∀e∈R,e.length=1)
    simp[AW,lb,SB]at ih ha hto hwk
    simp[show g+1+1=g+2 from rfl,hk',hw,hLk,AW,BH,ha,hai,hcs,ih,hto,hwk,hR2,hR3,QF,SB,A0,DB,GU,MG,BV,B8,BF,FD,EQ,show 2<g+2 by omega]
  |cons x L=>
   obtain⟨g',γ',hgg,ih⟩:=ATY c h1 h2 cs2 hcs d (k+1) (g+1+1) (g+1) (by omega) (by omega)
   refine⟨g',γ',by omega,fun n m hm=>?_⟩
   obtain⟨m,rfl⟩:=qNz m (by omega)
   have ih:=ih n m (by omega)
   rw[hst]at ih
   generalize (c.chairs.take k).map AW=R at *
   rw[AB]
   simp only[AD,bxC,JA]at ih|-
   simp[AW,BH]at hai
   cases R with
   |nil=>simp[AW,BH,lb,SB]at ih ha;simp[show g+1+1=g+2 from rfl,hk',hw,hLk,AW,BH,ha,hai,hcs,QF,ih,A0,DB,GU,MG,BV,B8,BF,FD,EQ,show 2<g+2 by omega]
   |cons r R=>
    have hR2:=hR1 r (by simp)
    have hR3:=eq_true (fun e he=>hR1 e (bb r he):∀e∈R,e.length=1)
    simp[AW,BH,lb,SB]at ih ha hto hwk
    simp[show g+1+1=g+2 from rfl,hk',hw,hLk,AW,BH,ha,hai,hcs,ih,hto,hwk,hR2,hR3,QF,SB,A0,DB,GU,MG,BV,B8,BF,FD,EQ,show 2<g+2 by omega]
theorem A5T(c:AO)(h1:c.fams.length<=100)(cs2:List V)(γ3:Nat)(R:List (List V)):∀(d k g γ:Nat),k+d=c.fams.length->2<g->∃g' γ',g<=g'/\∀n m,d<m->BI (AE db ann kn (n+200) 59) aY (ann 59 (BZ aY)) m ⟨g,[(1,true,.ptr 0 1 0 0),(2,true,.ptr 0 2 1 0),(3,true,.ptr 0 3 2 0),(5,true,i k)],⟨[],(1,0,.box (AD c))::(2,1,.box cs2)::(3,2,bxC c.beach c.plan (pv 30 γ3 R) (pv 56 γ ((c.fams.take k).map AS)))::(pl 30 γ3 97 R++pl 56 γ 94 ((c.fams.take k).map AS))⟩⟩ =
  some (.exit 2,⟨g',[(36,true,.bool false),(35,true,i c.fams.length),(34,true,.list false (c.fams.map AS)),(33,true,.ptr 0 1 0 11),(32,true,i c.fams.length),(1,true,.ptr 0 1 0 0),(2,true,.ptr 0 2 1 0),(3,true,.ptr 0 3 2 0),(5,true,i c.fams.length)],⟨[],(1,0,.box (AD c))::(2,1,.box cs2)::(3,2,bxC c.beach c.plan (pv 30 γ3 R) (pv 56 γ' (c.fams.map AS)))::(pl 30 γ3 97 R++pl 56 γ' 94 (c.fams.map AS))⟩⟩)
 |0,k,g,γ,hk,hg=>by
  have:k=c.fams.length:=by omega
  subst this;rw[bm];refine⟨g,γ,Nat.le_refl _,fun n m hm=>?_⟩;obtain⟨m,rfl⟩:=qNz m (by omega);rw[AB];simp only[AD,bxC,JA];cases R<;>cases c.fams<;>simp
 |d+1,k,g,γ,hk,hg=>by
  have hk':k<c.fams.length:=by omega
  have hw:=BS (k:=k) (by omega);have hst:(c.fams.take (k+1)).map AS=(c.fams.take k).map AS++[AS c.fams[k]]:=by rw[bx hk',bg];rfl
  have hRl:((c.fams.take k).map AS).length=k:=by rw[cn,bn];omega
  have hS1:∀e∈(c.fams.take k).map AS,e.length=4:=fun e he=>by obtain⟨l,_,rfl⟩:=bp.1 he;rfl
  have ha:=A5S (k:=((c.fams.take k).map AS).length) (l:=[c.fams[k]]) (by rw[hRl];simp;omega);obtain⟨g',γ',hgg,ih⟩:=A5T c h1 cs2 γ3 R d (k+1) (g+1+1) (g+1) (by omega) (by omega);refine⟨g',γ',by omega,fun n m hm=>?_⟩;obtain⟨m,rfl⟩:=qNz m (by omega);have ih:=ih n m (by omega);rw[hst]at ih;generalize (c.fams.take k).map AS=S at *;generalize hLk:c.fams[k]=f at *;rw[AB];simp only[AD,bxC,JA]at ih|-;cases S with
  |nil=>cases R<;>(simp[AS,SB]at ih ha;simp[hk',hw,hLk,AS,SB,ha,ih,A0,DB,GU,MG,BV,B8,BF,FD,EQ,show 0<g by omega,show 1<g by omega,show 2<g by omega])
  |cons q S=>
   have hS2:=hS1 q (by simp)
   have hS3:=eq_true (fun e he=>hS1 e (bb q he):∀e∈S,e.length=4)
   cases R<;>(simp[AS,SB]at ih ha;simp[hk',hw,hLk,AS,SB,ha,ih,hS2,hS3,A0,DB,GU,MG,BV,B8,BF,FD,EQ,show 0<g by omega,show 1<g by omega,show 2<g by omega])
def TL(c:AO):List V:=JA c.beach++[sl (c.plan.map AN),sl (c.chairs.map AW),sl (c.fams.map AS)]
theorem AFE(n:Nat)(c:AO)(ht:Z7 c=true):A3 db kn (AE db ann kn (n+900)) 21 [.agg (AD c)]=some (.agg (TL c)):=by
 rw[AP rfl,AQ Tryz.func21 b21 rfl (by simp[AD,AH,AN,AJ,AW,BH,AS])];obtain⟨t1,t2,t3,t4,t5,t6⟩:=SA ht;simp only[YV,ck,cz,Bool.or_eq_false_iff,Bool.not_eq_false',decide_eq_false_iff_not]at t1;obtain⟨⟨⟨⟨⟨u1,u2⟩,u3⟩,u4⟩,u5⟩,_⟩:=t1;obtain⟨u6,u7⟩:=XT u3;have qB:=fun n=>AZP n c.beach (by omega) (by omega) (by omega) (fun l hl=>by have:=u7 l hl;omega) (by omega) (by omega);have qL:=fun n=>ALJ n c.plan (by omega) (fun l hl=>by have:=t5 l hl;omega);have hz:∀o,([i 0,i 0,i 0,i 0,.nil,.nil,.nil,.nil,.nil,.nil,.nil,.nil]:List V).map (BK 0 28 o 3)=[i 0,i 0,i 0,i 0,.nil,.nil,.nil,.nil,.nil,.nil,.nil,.nil]:=fun o=>rfl;obtain⟨g1,γ1,h1,q1⟩:=ATY c (by omega) (fun l hl=>by have:=t6 l hl;omega) _ hz c.chairs.length 0 3 0 (by omega) (by omega);obtain⟨g2,γ2,h2,q2⟩:=A5T c (by omega) [i 0,i 0,i 0,i 0,.nil,.nil,.nil,.nil,.nil,.nil,.nil,.nil] γ1 (c.chairs.map AW) c.fams.length 0 g1 0 (by omega) (by omega);have q1:=fun n m=>q1 n (m+100) (by omega);have q2:=fun n m=>q2 n (m+100) (by omega);rw[show(c.chairs.take 0).map AW=[] from rfl]at q1;rw[show(c.fams.take 0).map AS=[] from rfl]at q2;have hg2:1<g2:=by omega
 have c1:∀e∈c.chairs.map AW,∀v∈e,AG 7 v=true:=fun e he v hv=>by obtain⟨l,_,rfl⟩:=bp.1 he;simp only[AW,dx,cg,or_false]at hv;subst hv;simp[BH]
 have c2:∀e∈c.fams.map AS,∀v∈e,AG 7 v=true:=fun e he v hv=>by obtain⟨l,_,rfl⟩:=bp.1 he;simp only[AS,dx,cg,or_false]at hv;rcases hv with rfl|rfl|rfl|rfl<;>rfl
 unfold TL;simp only[AD,AC,bxC,JA]at q1 q2 qB qL|-;generalize c.chairs.map AW=R at *;generalize c.fams.map AS=S at *;cases R with
 |nil=>
  cases S with
  |nil=>
   simp at q1 q2
   simp[c21,AF,qB,qL,q1,q2,hg2,SB,slN,slC,A0,DB,GU,BV,B8,BF,FD,EQ]
  |cons t S=>
   have s1:=eq_true (c2 t (by simp))
   have s2:=eq_true (fun e he=>c2 e (bb t he):∀e∈S,∀v∈e,AG 7 v=true)
   simp[SB]at q1 q2
   simp[c21,AF,qB,qL,q1,q2,s1,s2,hg2,SB,slN,slC,A0,DB,GU,BV,B8,BF,FD,EQ]
 |cons r R=>
  have r1:=eq_true (c1 r (by simp))
  have r2:=eq_true (fun e he=>c1 e (bb r he):∀e∈R,∀v∈e,AG 7 v=true)
  cases S with
  |nil=>
   simp[SB]at q1 q2
   simp[c21,AF,qB,qL,q1,q2,r1,r2,hg2,SB,slN,slC,A0,DB,GU,BV,B8,BF,FD,EQ]
  |cons t S=>
   have s1:=eq_true (c2 t (by simp))
   have s2:=eq_true (fun e he=>c2 e (bb t he):∀e∈S,∀v∈e,AG 7 v=true)
   simp[SB]at q1 q2
   simp[c21,AF,qB,qL,q1,q2,r1,r2,s1,s2,hg2,SB,slN,slC,A0,DB,GU,BV,B8,BF,FD,EQ]
end Go.Proofs.Tryz.Op
