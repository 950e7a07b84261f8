/- Contracts of the reference: People, Chairs, Minds, Groups. No condition but small numbers. -/
import Derived.Test.YthhdhbalenanjaaGreatC1
import Derived.Test.YthhdhbalenanjaaGreatEa
open Go.Proofs.Tryz renaming prog->dj
open List renaming getD_eq_getElem?_getD->bj,getElem?_eq_getElem->bk,drop_eq_getElem_cons->bq,getElem_mem->bw,mem_cons_of_mem->bx,take_succ_eq_append_getElem->bz,range->bb,length_range->bc,all_cons->bf,mem_map->bg,map_congr_left->bh,take_length->bm,length_take->bn,drop_eq_nil_of_le->bp,map_append->bt,drop_zero->ck,mem_range->cq,drop_length->cx,getElem_range->cz,not_mem_nil->cd,count_le_length->cg,length_map->cm,map_map->cn,mem_cons->cp,map->ct
open Bool renaming not_eq_true'->cj,and_eq_true->cw
set_option maxRecDepth 100000
set_option linter.unusedSimpArgs false
open Go Go.Pg Go.Proofs Go.Wind
namespace Go.Wind
def DH(G:List (Nat×Int)):Int:=(G.map (·.2)).sum
theorem iV{G:List (Nat×Int)}{k:Nat}(h:k<G.length):DH (G.take (k+1))=DH (G.take k)+G[k].2:=by unfold DH;rw[bz h,bt,List.sum_append];simp
theorem ZD:∀{G:List (Nat×Int)},(∀g∈G,0<=g.2/\g.2<=4)->0<=DH G/\DH G<=4*G.length
 |[],_=>by simp[DH]
 |g::G,h=>by have ih:=ZD (G:=G) fun x hx=>h x (by simp[hx]);have h1:=h g (by simp);simp only[DH,List.map_cons,List.sum_cons,List.length_cons]at ih|-;omega
end Go.Wind
namespace Go.Proofs.Tryz.Op
theorem A1X(G:List (Nat×Int))(hl:G.length<=100)(hg:∀g∈G,0<=g.2/\g.2<=4):∀(d k:Nat),k+d=G.length->∀n m,d<m->A8 (AE dj ann kn (n+100) 19) ZM (ann 19 (BU ZM)) m ⟨0,[(0,true,.list false (G.map AW)),(3,true,i (DH (G.take k))),(4,true,i k)],⟨[],[]⟩⟩ =
  some (.exit 0,⟨0,[(8,true,.bool false),(7,true,i G.length),(6,true,.list false (G.map AW)),(5,true,i G.length),(0,true,.list false (G.map AW)),(3,true,i (DH G)),(4,true,i G.length)],⟨[],[]⟩⟩)
 |0,k,hk,n,m+1,hm=>by
  obtain rfl:k=G.length:=by omega
  rw[bm,AB];simp
 |d+1,k,hk,n,m+1,hm=>by
  have hk':k<G.length:=by omega
  have hw:=BM (k:=k) (by omega);have h1:=hg G[k] (bw hk');have h2:=ZD (G:=G.take k) fun x hx=>hg x (List.mem_of_mem_take hx);have h3:(G.take k).length<=100:=by rw[bn];omega
  have hwp:IntKind.i64.wrap (DH (G.take k)+G[k].2)=DH (G.take k)+G[k].2:=AO (by omega) (by omega);have ih:=A1X G hl hg d (k+1) (by omega) n m (by omega);rw[iV hk']at ih;generalize DH (G.take k)=S at *;generalize DH G=SS at *;rw[AB];simp at ih;simp[hk',hw,hwp,AW,ih]
theorem AJ1(n:Nat)(G:List (Nat×Int))(hl:G.length<=100)(hg:∀g∈G,0<=g.2/\g.2<=4):AY dj kn (AE dj ann kn (n+300)) 72 [.list false (G.map AW)]=some (i (DH G)):=by rw[AN rfl,AM Tryz.func72 b72 rfl (by simp[AW])];have q:=fun n m=>A1X G hl hg G.length 0 (by omega) n (m+101) (by omega);rw[show DH (G.take 0)=0 from rfl]at q;generalize DH G=S at *;simp at q;simp[c72,AF,q]
theorem A1Y(c:AP)(r:Nat)(hr:r<c.chairs.length)(hl:c.chairs[r].length<=100)(N:Nat)(hN:N<=100000):∀(d j:Nat),j+d=c.chairs[r].length->∃fr,BG fr 1=some (true,.ptr 0 1 0 0)/\BG fr 3=some (true,i ((N+c.chairs[r].count true:Nat):Int))/\BG fr 4=some (true,i r)/\∀n m,d<m->A8 (AE dj ann kn (n+200) 34) ZN (ann 34 (BU ZN)) m ⟨1,[(1,true,.ptr 0 1 0 0),(3,true,i ((N+(c.chairs[r].take j).count true:Nat):Int)),(4,true,i r),(5,true,i j)],⟨[],[(1,0,.box (AD c))]⟩⟩ =
  some (.exit 2,⟨1,fr,⟨[],[(1,0,.box (AD c))]⟩⟩)
 |0,j,hd=>by
  obtain rfl:j=c.chairs[r].length:=by omega
  rw[bm];refine⟨?fr,?g1,?g3,?g4,fun n m hm=>?g2⟩;case g2=>
   obtain⟨m,rfl⟩:=qNz m (by omega)
   rw[AB]
   simp[AD,hr,AU]
   rfl
  case g1=>simp
  case g3=>simp
  case g4=>simp
 |d+1,j,hd=>by
  have hj:j<c.chairs[r].length:=by omega
  have hw:=BM (k:=j) (by omega);obtain⟨fr,g1,g3,g4,ih⟩:=A1Y c r hr hl N hN d (j+1) (by omega);refine⟨fr,g1,g3,g4,fun n m hm=>?_⟩;obtain⟨m,rfl⟩:=qNz m (by omega);have ih:=ih n m (by omega);rw[ZA _ hj]at ih;have hcl:(c.chairs[r].take j).count true<=100:=by have:=cg (a:=true) (l:=c.chairs[r].take j);rw[bn]at this;omega
  generalize (c.chairs[r].take j).count true=C at *;have hwC2:IntKind.i64.wrap ((N:Int)+(C:Int)+1)=((N:Int)+((C:Int)+1)):=by rw[AO (by omega) (by omega)];omega
  rw[AB];simp only[AD]at ih|-;cases hz:c.chairs[r][j]with
  |true=>
   rw[hz,if_pos rfl]at ih
   simp at ih
   simp[hr,hj,hw,hz,AU,BC,hwC2,ih]
  |false=>
   rw[hz,if_neg (by decide),Nat.add_zero]at ih
   simp at ih
   simp[hr,hj,hw,hz,AU,BC,ih]
theorem A1Z(c:AP)(hl:c.chairs.length<=100)(hr:∀l∈c.chairs,l.length<=100):∀(d r N:Nat),r+d=c.chairs.length->N<=100*r->∃fr,BG fr 3=some (true,i ((N+((c.chairs.drop r).map fun l=>l.count true).sum:Nat):Int))/\∀n m,d<m->A8 (AE dj ann kn (n+400) 34) ZO (ann 34 (BU ZO)) m ⟨1,[(1,true,.ptr 0 1 0 0),(3,true,i N),(4,true,i r)],⟨[],[(1,0,.box (AD c))]⟩⟩ =
  some (.exit 0,⟨1,fr,⟨[],[(1,0,.box (AD c))]⟩⟩)
 |0,r,N,hd,hN=>by
  obtain rfl:r=c.chairs.length:=by omega
  refine⟨?fr,?g3,fun n m hm=>?g2⟩;case g2=>
   obtain⟨m,rfl⟩:=qNz m (by omega)
   rw[AB]
   simp[AD]
   rfl
  case g3=>simp
 |d+1,r,N,hd,hN=>by
  have hj:r<c.chairs.length:=by omega
  have hw:=BM (k:=r) (by omega);have hlj:=hr c.chairs[r] (bw hj);obtain⟨f1,g1,g3,g4,q⟩:=A1Y c r hj hlj N (by omega) c.chairs[r].length 0 (by omega);have q:=fun n m=>q n (m+101) (by omega);have hcl:=cg (a:=true) (l:=c.chairs[r]);obtain⟨fr,e3,ih⟩:=A1Z c hl hr d (r+1) (N+c.chairs[r].count true) (by omega) (by omega);have hs:N+c.chairs[r].count true+((c.chairs.drop (r+1)).map fun l=>l.count true).sum=N+((c.chairs.drop r).map fun l=>l.count true).sum:=by rw[bq hj,List.map_cons,List.sum_cons];omega
  rw[hs]at e3;refine⟨fr,e3,fun n m hm=>?_⟩;obtain⟨m,rfl⟩:=qNz m (by omega);have ih:=ih n m (by omega);generalize c.chairs[r].count true=C at *;simp only[List.take_zero,List.count_nil,Nat.add_zero]at q;rw[AB];simp only[AD]at ih q|-;simp at ih q g3;simp[hj,hw,q,g1,g3,g4,ih]
theorem ADF(n:Nat)(c:AP)(hl:c.chairs.length<=100)(hr:∀l∈c.chairs,l.length<=100):AY dj kn (AE dj ann kn (n+600)) 73 [.agg (AD c)]=some (i (DZ c)):=by rw[AN rfl,AM Tryz.func73 b73 rfl (by simp[AD,AU,BC,AS])];obtain⟨fr,g3,q⟩:=A1Z c hl hr c.chairs.length 0 0 (by omega) (by omega);have q:=fun n m=>q n (m+101) (by omega);have e:((c.chairs.drop 0).map fun l=>l.count true).sum=DZ c:=rfl;rw[e,Nat.zero_add]at g3;generalize DZ c=T at *;simp only[AD]at q|-;simp at q g3;simp[c73,AF,q,g3]
theorem AJ2(n:Nat)(c:AP)(a b:Nat)(ha:a<c.fams.length)(hb:b<c.fams.length):AY dj kn (AE dj ann kn (n+300)) 122 [.agg (AD c),i a,i b]=some (.bool (JG c a b)):=by
 rw[AN rfl,AM Tryz.func122 BEI rfl (by simp[AD,AU,BC,AS])];unfold JG;rw[YJ ha,YJ hb];have e:decide ((a:Int)=(b:Int))=decide (a=b):=decide_eq_decide.2 (by omega);have e2:decide (a≠b)=!decide (a=b):=by simp
 rw[e2];generalize decide (a=b)=z at *;rcases hF1:c.fams[a]with⟨s1,g1,d1,h1⟩;rcases hF2:c.fams[b]with⟨s2,g2,d2,h2⟩;simp only[AD];have p1:Nat.beq 4 1=false:=rfl;cases z<;>cases d1<;>cases h1<;>cases d2<;>cases h2<;>simp[A31,AF,e,ha,hb,hF1,hF2,AS,CD,EY,B6,KK,ID,J4,p1]
end Go.Proofs.Tryz.Op
namespace Go.Wind
def A2(G:List (Nat×Int))(ss:List (Int×Int))(k:Nat):Sp:=⟨(G.getD k (0,0)).1,(G.getD k (0,0)).2,(ss.getD k (0,0)).1,(ss.getD k (0,0)).2⟩
def KR(c:AP)(x y:Sp)(a b:Nat):Bool :=
 let d:=y.place+(a:Int)-x.place-(b:Int)
 decide (d=0)||((decide (d=1)||decide (d = -1))&&JG c y.fam x.fam)
theorem zT(c:AP)(x y:Sp):QT c x y=(bb y.size.toNat).any fun a=>(bb x.size.toNat).any (KR c x y a):=rfl
def RY(c:AP)(x y:Sp):Bool:=decide (y.row≠x.row)||!QT c x y
end Go.Wind
namespace Go.Proofs.Tryz.Op
section
variable (c:AP)(G:List (Nat×Int))(ss:List (Int×Int))(t q:Nat)
set_option maxHeartbeats 1000000 in
theorem AOQ(hG:ss.length<=G.length)(ht:t+1=ss.length)(hq:q<t)(hs:ss.length<=100)(hf:∀g∈G,g.1<c.fams.length/\0<=g.2/\g.2<=4)(hp:0<=(A2 G ss q).place/\(A2 G ss q).place<=1000)(hx:0<=(A2 G ss t).place/\(A2 G ss t).place<=1000)(a:Nat)(ha:a<=4):∀(d b:Nat),b+d=(A2 G ss t).size.toNat->∃fr,BG fr 1=some (true,.list false (G.map AW))/\BG fr 2=some (true,.list false (ss.map AQ))/\BG fr 3=some (true,.ptr 0 3 0 0)/\BG fr 7=some (true,i t)/\BG fr 8=some (true,.ptr 0 8 1 0)/\BG fr 9=some (true,i (A2 G ss t).size)/\BG fr 10=some (true,i q)/\BG fr 11=some (true,i a) /\
  ∀n m,d<m->A8 (AE dj ann kn (n+400) 112) S5 (ann 112 (BU S5)) m ⟨2,[(1,true,.list false (G.map AW)),(2,true,.list false (ss.map AQ)),(3,true,.ptr 0 3 0 0),(7,true,i t),(8,true,.ptr 0 8 1 0),(9,true,i (A2 G ss t).size),(10,true,i q),(11,true,i a),(12,true,i b)],⟨[],[(3,0,.box (AD c)),(8,1,.box [i (A2 G ss t).row,i (A2 G ss t).place])]⟩⟩ =
   if ((bb (A2 G ss t).size.toNat).drop b).any (KR c (A2 G ss t) (A2 G ss q) a)=true then some (.ret,⟨2,[(6,true,.bool false)],⟨[],[]⟩⟩) else some (.exit 4,⟨2,fr,⟨[],[(3,0,.box (AD c)),(8,1,.box [i (A2 G ss t).row,i (A2 G ss t).place])]⟩⟩)
 |0,b,hd=>by
  have hgt:t<G.length:=by omega
  have h1:=hf G[t] (bw hgt);have hge:(A2 G ss t).size=G[t].2:=by simp[A2,bj,bk hgt]
  have hb:(b:Int)=(A2 G ss t).size:=by omega
  rw[bp (by rw[bc];omega),hb];refine⟨?fr,?g1,?g2,?g3,?g4,?g5,?g6,?g7,?g8,fun n m hm=>?g9⟩;case g9=>
   obtain⟨m,rfl⟩:=qNz m (by omega)
   rw[AB]
   simp[AD]
   rfl
  all_goals simp
 |d+1,b,hd=>by
  have hgt:t<G.length:=by omega
  have hgq:q<G.length:=by omega
  have hsq:q<ss.length:=by omega
  have h1:=hf G[t] (bw hgt);have h2:=hf G[q] (bw hgq);have et:(A2 G ss t).size=G[t].2:=by simp[A2,bj,bk hgt]
  have et1:(A2 G ss t).fam=G[t].1:=by simp[A2,bj,bk hgt]
  have eq1:(A2 G ss q).fam=G[q].1:=by simp[A2,bj,bk hgq]
  have eq2:(A2 G ss q).place=ss[q].2:=by simp[A2,bj,bk hsq]
  have hlt:(b:Int)<(A2 G ss t).size:=by omega
  have hw:=BM (k:=b) (by omega);have qm:=fun n=>AJ2 n c G[q].1 G[t].1 h2.1 h1.1;have w1:IntKind.i64.wrap (ss[q].2+(a:Int))=ss[q].2+a:=AO (by omega) (by omega);have w2:IntKind.i64.wrap (ss[q].2+(a:Int)-(A2 G ss t).place)=ss[q].2+a-(A2 G ss t).place:=AO (by omega) (by omega);obtain⟨D,hD⟩:∃D,ss[q].2+(a:Int)-(A2 G ss t).place-b=D:=⟨_,rfl⟩;have w3:IntKind.i64.wrap (ss[q].2+(a:Int)-(A2 G ss t).place-b)=D:=by rw[AO (by omega) (by omega),hD]
  obtain⟨fr,g1,g2,g3,g4,g5,g6,g7,g8,ih⟩:=AOQ hG ht hq hs hf hp hx a ha d (b+1) (by omega);refine⟨fr,g1,g2,g3,g4,g5,g6,g7,g8,fun n m hm=>?_⟩;obtain⟨m,rfl⟩:=qNz m (by omega);have ih:=ih n m (by omega);rw[bq (by rw[bc];omega),List.any_cons,cz];have ec:KR c (A2 G ss t) (A2 G ss q) a b=(decide (ss[q].2+(a:Int)-(A2 G ss t).place-b=0)||((decide (ss[q].2+(a:Int)-(A2 G ss t).place-b=1)||decide (ss[q].2+(a:Int)-(A2 G ss t).place-b = -1))&&JG c G[q].1 G[t].1)):=by unfold KR;rw[eq1,et1,eq2]
  rw[ec,hD];clear hD ec;generalize ((bb (A2 G ss t).size.toNat).drop (b+1)).any (KR c (A2 G ss t) (A2 G ss q) a)=z at ih|-;generalize JG c G[q].1 G[t].1=z4 at *;generalize A2 G ss t=X at *;generalize e1:decide (D=0)=z1;generalize e2:decide (D=1)=z2;generalize e3:decide (D = -1)=z3;rw[AB];simp only[AD]at ih qm|-;cases z1 with
  |true=>simp[hlt,hsq,w1,w2,w3,e1,XU,AQ]
  |false=>
   cases z2 with
   |true=>
    cases z4 with
    |true=>simp[hlt,hgt,hgq,hsq,w1,w2,w3,e1,e2,qm,XU,AW,AQ,AU,BC,AS]
    |false=>cases z<;>(simp at ih;simp[hlt,hw,hgt,hgq,hsq,w1,w2,w3,e1,e2,qm,XU,AW,AQ,AU,BC,AS,ih])
   |false=>
    cases z3 with
    |true=>
     cases z4 with
     |true=>simp[hlt,hgt,hgq,hsq,w1,w2,w3,e1,e2,e3,qm,AW,AQ,AU,BC,AS]
     |false=>cases z<;>(simp at ih;simp[hlt,hw,hgt,hgq,hsq,w1,w2,w3,e1,e2,e3,qm,AW,AQ,AU,BC,AS,ih])
    |false=>cases z<;>(simp at ih;simp[hlt,hw,hsq,w1,w2,w3,e1,e2,e3,XU,AQ,ih])
theorem AOR(hG:ss.length<=G.length)(ht:t+1=ss.length)(hq:q<t)(hs:ss.length<=100)(hf:∀g∈G,g.1<c.fams.length/\0<=g.2/\g.2<=4)(hp:0<=(A2 G ss q).place/\(A2 G ss q).place<=1000)(hx:0<=(A2 G ss t).place/\(A2 G ss t).place<=1000):∀(d a:Nat),a+d=(A2 G ss q).size.toNat->∃fr,BG fr 1=some (true,.list false (G.map AW))/\BG fr 2=some (true,.list false (ss.map AQ))/\BG fr 3=some (true,.ptr 0 3 0 0)/\BG fr 7=some (true,i t)/\BG fr 8=some (true,.ptr 0 8 1 0)/\BG fr 9=some (true,i (A2 G ss t).size)/\BG fr 10=some (true,i q) /\
  ∀n m,d<m->A8 (AE dj ann kn (n+600) 112) S6 (ann 112 (BU S6)) m ⟨2,[(1,true,.list false (G.map AW)),(2,true,.list false (ss.map AQ)),(3,true,.ptr 0 3 0 0),(7,true,i t),(8,true,.ptr 0 8 1 0),(9,true,i (A2 G ss t).size),(10,true,i q),(11,true,i a)],⟨[],[(3,0,.box (AD c)),(8,1,.box [i (A2 G ss t).row,i (A2 G ss t).place])]⟩⟩ =
   if ((bb (A2 G ss q).size.toNat).drop a).any (fun a=>(bb (A2 G ss t).size.toNat).any (KR c (A2 G ss t) (A2 G ss q) a))=true then some (.ret,⟨2,[(6,true,.bool false)],⟨[],[]⟩⟩) else some (.exit 2,⟨2,fr,⟨[],[(3,0,.box (AD c)),(8,1,.box [i (A2 G ss t).row,i (A2 G ss t).place])]⟩⟩)
 |0,a,hd=>by
  have hgq:q<G.length:=by omega
  have h1:=hf G[q] (bw hgq);have hge:(A2 G ss q).size=G[q].2:=by simp[A2,bj,bk hgq]
  have hb:(a:Int)=G[q].2:=by omega
  rw[bp (by rw[bc];omega),hb];refine⟨?fr,?g1,?g2,?g3,?g4,?g5,?g6,?g7,fun n m hm=>?g9⟩;case g9=>
   obtain⟨m,rfl⟩:=qNz m (by omega)
   rw[AB]
   simp[AD,hgq,AW]
   rfl
  all_goals simp
 |d+1,a,hd=>by
  have hgq:q<G.length:=by omega
  have hgt:t<G.length:=by omega
  have h2:=hf G[q] (bw hgq);have h3:=hf G[t] (bw hgt);have eq3:(A2 G ss q).size=G[q].2:=by simp[A2,bj,bk hgq]
  have hlt:(a:Int)<G[q].2:=by omega
  have hw:=BM (k:=a) (by omega);obtain⟨f0,b1,b2,b3,b4,b5,b6,b7,b8,qi⟩:=AOQ c G ss t q hG ht hq hs hf hp hx a (by omega) (A2 G ss t).size.toNat 0 (by omega);have hts:(A2 G ss t).size=G[t].2:=by simp[A2,bj,bk hgt]
  have qi:=fun n m=>qi n (m+100) (by omega);rw[ck]at qi;obtain⟨fr,g1,g2,g3,g4,g5,g6,g7,ih⟩:=AOR hG ht hq hs hf hp hx d (a+1) (by omega);refine⟨fr,g1,g2,g3,g4,g5,g6,g7,fun n m hm=>?_⟩;obtain⟨m,rfl⟩:=qNz m (by omega);have ih:=ih n m (by omega);rw[bq (by rw[bc];omega),List.any_cons,cz];generalize ((bb (A2 G ss q).size.toNat).drop (a+1)).any (fun a=>(bb (A2 G ss t).size.toNat).any (KR c (A2 G ss t) (A2 G ss q) a))=z at ih|-;generalize (bb (A2 G ss t).size.toNat).any (KR c (A2 G ss t) (A2 G ss q) a)=z1 at *;generalize A2 G ss t=X at *;rw[AB];simp only[AD]at ih qi|-;cases z1<;>cases z<;>(simp at ih qi;simp[hlt,hw,hgq,qi,b1,b2,b3,b4,b5,b6,b7,b8,AW,ih])
end
theorem A10(c:AP)(G:List (Nat×Int))(ss:List (Int×Int))(t:Nat)(hG:ss.length<=G.length)(ht:t+1=ss.length)(hs:ss.length<=100)(hf:∀g∈G,g.1<c.fams.length/\0<=g.2/\g.2<=4)(hp:∀q,q<t->0<=(A2 G ss q).place/\(A2 G ss q).place<=1000)(hx:0<=(A2 G ss t).place/\(A2 G ss t).place<=1000):∀(d q:Nat),q+d=t->∃fr,
  ∀n m,d<m->A8 (AE dj ann kn (n+800) 112) ZP (ann 112 (BU ZP)) m ⟨2,[(1,true,.list false (G.map AW)),(2,true,.list false (ss.map AQ)),(3,true,.ptr 0 3 0 0),(7,true,i t),(8,true,.ptr 0 8 1 0),(9,true,i (A2 G ss t).size),(10,true,i q)],⟨[],[(3,0,.box (AD c)),(8,1,.box [i (A2 G ss t).row,i (A2 G ss t).place])]⟩⟩ =
   if ((bb t).drop q).all (fun q=>RY c (A2 G ss t) (A2 G ss q))=true then some (.exit 0,⟨2,fr,⟨[],[(3,0,.box (AD c)),(8,1,.box [i (A2 G ss t).row,i (A2 G ss t).place])]⟩⟩) else some (.ret,⟨2,[(6,true,.bool false)],⟨[],[]⟩⟩)
 |0,q,hd=>by
  obtain rfl:q=t:=by omega
  rw[bp (by rw[bc];omega)];refine⟨?fr,fun n m hm=>?g9⟩;case g9=>
   obtain⟨m,rfl⟩:=qNz m (by omega)
   rw[AB]
   simp[AD]
   rfl
 |d+1,q,hd=>by
  have hq:q<t:=by omega
  have hgq:q<G.length:=by omega
  have hsq:q<ss.length:=by omega
  have hw:=BM (k:=q) (by omega);have hlt:(q:Int)<(t:Int):=by omega
  have eq2:(A2 G ss q).row=ss[q].1:=by simp[A2,bj,bk hsq]
  obtain⟨f0,b1,b2,b3,b4,b5,b6,b7,qi⟩:=AOR c G ss t q hG ht hq hs hf (hp q hq) hx (A2 G ss q).size.toNat 0 (by omega);have qi:=fun n m=>qi n (m+100) (by
   have h2:=hf G[q] (bw hgq);have:(A2 G ss q).size=G[q].2:=by simp[A2,bj,bk hgq]
   omega)
  rw[ck,<-zT]at qi;obtain⟨fr,ih⟩:=A10 c G ss t hG ht hs hf hp hx d (q+1) (by omega);refine⟨fr,fun n m hm=>?_⟩;obtain⟨m,rfl⟩:=qNz m (by omega);have ih:=ih n m (by omega);rw[bq (by rw[bc];omega),bf,cz];have ef:RY c (A2 G ss t) (A2 G ss q)=(decide (ss[q].1≠(A2 G ss t).row)||!QT c (A2 G ss t) (A2 G ss q)):=by unfold RY;rw[eq2]
  rw[ef];generalize ((bb t).drop (q+1)).all (fun q=>RY c (A2 G ss t) (A2 G ss q))=z at ih|-;generalize QT c (A2 G ss t) (A2 G ss q)=z1 at *;generalize A2 G ss t=X at *;rw[AB];simp only[AD]at ih qi|-;by_cases hr:ss[q].1=X.row
  ·have hr':decide (ss[q].1≠X.row)=false:=by simp[hr]
   rw[hr'];cases z1<;>cases z<;>(simp at ih qi;simp[hlt,hw,hsq,hr,qi,b1,b2,b3,b4,b5,b6,b7,AQ,ih])
  ·have hr':decide (ss[q].1≠X.row)=true:=by simp[hr]
   rw[hr'];cases z<;>(simp at ih;simp[hlt,hw,hsq,hr,AQ,ih])
def JH(c:AP)(G:List (Nat×Int))(ss:List (Int×Int))(t:Nat):Bool:=ED c (A2 G ss t)&&(bb t).all fun q=>RY c (A2 G ss t) (A2 G ss q)
theorem A11(n:Nat)(c:AP)(h1:0<=c.beach.rows/\c.beach.rows<=1000)(h2:0<=c.beach.places/\c.beach.places<=1000)(G:List (Nat×Int))(ss:List (Int×Int))(t:Nat)(hG:ss.length<=G.length)(ht:t+1=ss.length)(hs:ss.length<=100)(hf:∀g∈G,g.1<c.fams.length/\0<=g.2/\g.2<=4)(hp:∀q,q<t->0<=(A2 G ss q).place/\(A2 G ss q).place<=1000):AY dj kn (AE dj ann kn (n+1000)) 74 [.agg (AD c),.list false (G.map AW),.list false (ss.map AQ)]=some (.bool (JH c G ss t)):=by
 rw[AN rfl,AM Tryz.func74 b74 rfl (by simp[AD,AU,BC,AS,AW])];have hgt:t<G.length:=by omega
 have hst:t<ss.length:=by omega
 have hf1:=hf G[t] (bw hgt);have e1:(A2 G ss t).size=G[t].2:=by simp[A2,bj,bk hgt]
 have e2:(A2 G ss t).row=ss[t].1:=by simp[A2,bj,bk hst]
 have e3:(A2 G ss t).place=ss[t].2:=by simp[A2,bj,bk hst]
 have hlen:(ss.length:Int)=(t:Int)+1:=by omega
 have w0:IntKind.i64.wrap ((t:Int)+1-1)=(t:Int):=by rw[AO (by omega) (by omega)];omega
 have hlt0:¬((t:Int)+1<=(t:Int)):=by omega
 have w00:IntKind.i64.wrap (t:Int)=(t:Int):=AO (by omega) (by omega);have w1:IntKind.i64.wrap (c.beach.rows-1)=c.beach.rows-1:=AO (by omega) (by omega);have w2:IntKind.i64.wrap (c.beach.places-G[t].2)=c.beach.places-G[t].2:=AO (by omega) (by omega);have qi:=fun n=>kIn n ss[t].1 0 (c.beach.rows-1);unfold JH;have ef:ED c (A2 G ss t)=(GA ss[t].1 0 (c.beach.rows-1)&&(!decide (ss[t].2<0)&&!decide (c.beach.places-G[t].2<ss[t].2))):=by unfold ED;rw[e1,e2,e3];congr 1;unfold GA;by_cases x1:ss[t].2<0<;>by_cases x2:c.beach.places-G[t].2<ss[t].2<;>simp[x1,x2]<;>omega
 have hp1:Nat.beq 2 1=false:=rfl;by_cases hfit:ED c (A2 G ss t)=true
 ·have hx:0<=(A2 G ss t).place/\(A2 G ss t).place<=1000:=by simp only[ED,cw,DI]at hfit;omega
  obtain⟨fr,q⟩:=A10 c G ss t hG ht hs hf hp hx t 0 (by omega);have q:=fun n m=>q n (m+101) (by omega);rw[ck]at q;rw[hfit,Bool.true_and];rw[ef]at hfit;simp only[cw,cj,decide_eq_false_iff_not]at hfit;obtain⟨f1,f2,f3⟩:=hfit;rw[f1]at qi;rw[e1,e2,e3]at q;generalize (bb t).all (fun q=>RY c (A2 G ss t) (A2 G ss q))=z at *;simp only[AD]at q|-;cases z<;>(simp at q;simp[c74,AF,hlen,hgt,hst,hlt0,w0,w00,w1,w2,qi,f2,f3,AW,AQ,P1,CD,EY,B6,KK,ID,XU,J4,hp1,q])
 ·have hfit:ED c (A2 G ss t)=false:=by simpa using hfit
  rw[hfit,Bool.false_and];rw[ef]at hfit;generalize GA ss[t].1 0 (c.beach.rows-1)=z1 at *;generalize x2:decide (ss[t].2<0)=z2 at *;generalize x3:decide (c.beach.places-G[t].2<ss[t].2)=z3 at *;simp only[AD];cases z1<;>cases z2<;>cases z3<;>first|(exact absurd hfit (by decide))|simp[c74,AF,hlen,hgt,hst,hlt0,w0,w00,w1,w2,qi,x2,x3,AW,AQ,P1,CD,EY,B6,KK,ID,XU,J4,hp1]
end Go.Proofs.Tryz.Op
namespace Go.Wind
open Go.Proofs.Tryz.Op
def LJ(c:AP)(G:List (Nat×Int))(ss:List (Int×Int)):Bool:=decide (ss.length=G.length)&&(decide (DH G<=(DZ c:Int))&&(bb ss.length).all (JH c G ss))
theorem RZ(c:AP)(f:Nat->Sp):∀n,F9 c [] ((bb n).map f)=(bb n).all fun t=>ED c (f t)&&((bb t).map f).all (ER c (f t))
 |0=>rfl
 |n+1=>by rw[List.range_succ,bt,Y2,RZ c f n,List.all_append];simp[F9]
theorem fL{G:List (Nat×Int)}(hG:∀g∈G,1<=g.2/\g.2<=4){ss:List (Int×Int)}{t:Nat}(ht:t<G.length):1<=(A2 G ss t).size:=by simp only[A2,bj,bk ht,Option.getD_some];exact(hG _ (bw ht)).1
theorem lZ{c:AP}{G:List (Nat×Int)}(hG:∀g∈G,1<=g.2/\g.2<=4){ss:List (Int×Int)}{t:Nat}(ht:t<G.length):JH c G ss t=(ED c (A2 G ss t)&&((bb t).map (A2 G ss)).all (ER c (A2 G ss t))):=by
 rw[<- rT (fL hG ht) fun y hy=>by
  obtain⟨q,hq,rfl⟩:=bg.1 hy;exact fL hG (by have:=cq.1 hq; omega)]
 unfold JH ACV RY;rw[List.all_map];rfl
theorem sA{G:List (Nat×Int)}{ss:List (Int×Int)}(_:ss.length<=G.length):∀{l:List Sp},l.length=ss.length->(∀j (h1:j<l.length),l[j]=A2 G ss j)->l=(bb ss.length).map (A2 G ss):=fun {l} h1 h2=>by apply List.ext_getElem (by simp[h1]);intro j g1 g2;rw[h2 j g1];simp
theorem W3{c:AP}{G:List (Nat×Int)}(hG:∀g∈G,1<=g.2/\g.2<=4)(ss:List (Int×Int)):LJ c G ss=(decide (ss.length=G.length)&&(decide (DH G<=(DZ c:Int))&&F9 c [] ((bb ss.length).map (A2 G ss)))):=by
 unfold LJ;by_cases h:ss.length=G.length
 ·congr 2;rw[RZ];have:∀l:List Nat,(∀t∈l,t<G.length)->l.all (JH c G ss)=l.all fun t=>ED c (A2 G ss t)&&((bb t).map (A2 G ss)).all (ER c (A2 G ss t)):=fun l hl=>by
   induction l with
   |nil=>rfl
   |cons t l ih=>rw[bf,bf,ih fun x hx=>hl x (by simp[hx]),lZ hG (hl t (by simp))]
  exact this _ fun t ht=>by have:=cq.1 ht;omega
 ·simp[h]
theorem H6{c:AP}(hc:B0 c)(out:List Int):∀(k:Nat),k<=c.fams.length->∀g∈B5 c.fams out k,g.1<c.fams.length/\1<=g.2/\g.2<=4
 |0,_,g,hg=>by cases hg
 |k+1,hk,g,hg=>by
  simp only[B5,List.mem_append]at hg;rcases hg with hg|hg
  ·exact H6 hc out k (by omega) g hg
  ·split at hg
   ·cases hg
   ·rw[List.mem_singleton]at hg;subst hg;have hk':k<c.fams.length:=by omega
    have e:c.fams.getD k ⟨0,0,false,false⟩=c.fams[k]:=by rw[bj,bk hk'];rfl
    have:=hc.fo _ (bw hk');simp only[e];exact⟨hk',this.1⟩
end Go.Wind
namespace Go.Proofs.Tryz.Op
def JI{α:Type}(l:List α):Bool:=!decide ((7:Int)<(l.length:Int))
def fM(c:AP):Bool:=(XX c.beach&&(JI c.plan&&(JI c.chairs&&!decide ((5:Int)<(c.fams.length:Int)))))&&(c.plan.all JI&&c.chairs.all JI)
theorem zU{α:Type}{l:List α}:JI l=true↔l.length<=7:=by simp only[JI,cj,decide_eq_false_iff_not];omega
theorem ZE{c:AP}(h:fM c=true):XX c.beach=true/\c.plan.length<=7/\c.chairs.length<=7/\c.fams.length<=5/\(∀l∈c.plan,l.length<=7)/\∀l∈c.chairs,l.length<=7:=by simp only[fM,cw,zU,List.all_eq_true,cj,decide_eq_false_iff_not]at h;exact⟨h.1.1,h.1.2.1,h.1.2.2.1,by omega,h.2.1,h.2.2⟩
theorem A12(c:AP)(hl:c.plan.length<=100):∀(d k:Nat),k+d=c.plan.length->∃fr,BG fr 1=some (true,.ptr 0 1 0 0) /\
  ∀n m,d<m->A8 (AE dj ann kn (n+100) 55) ZQ (ann 55 (BU ZQ)) m ⟨1,[(1,true,.ptr 0 1 0 0),(3,true,i k)],⟨[],[(1,0,.box (AD c))]⟩⟩ =
   if (c.plan.drop k).all JI=true then some (.exit 0,⟨1,fr,⟨[],[(1,0,.box (AD c))]⟩⟩) else some (.ret,⟨1,[(2,true,.bool false)],⟨[],[]⟩⟩)
 |0,k,hk=>by
  have:k=c.plan.length:=by omega
  subst this;rw[cx];refine⟨?fr,?g1,fun n m hm=>?g2⟩;case g2=>
   obtain⟨m,rfl⟩:=qNz m (by omega)
   rw[AB]
   simp[AD]
   rfl
  case g1=>simp
 |d+1,k,hk=>by
  have hk':k<c.plan.length:=by omega
  have hw:=BM (k:=k) (by omega);obtain⟨fr,e1,ih⟩:=A12 c hl d (k+1) (by omega);rw[bq hk',bf];refine⟨fr,e1,fun n m hm=>?_⟩;obtain⟨m,rfl⟩:=qNz m (by omega);have ih:=ih n m (by omega);have es:JI c.plan[k]=!decide ((7:Int)<(c.plan[k].length:Int)):=rfl;rw[es];generalize e1:decide ((7:Int)<(c.plan[k].length:Int))=z1;generalize (c.plan.drop (k+1)).all JI=z at ih|-;rw[AB];simp only[AD]at ih|-;cases z1<;>cases z<;>(simp at ih;simp[AV,hk',hw,e1,ih])
theorem A13(c:AP)(hl:c.chairs.length<=100):∀(d k:Nat),k+d=c.chairs.length->∃fr,BG fr 1=some (true,.ptr 0 1 0 0) /\
  ∀n m,d<m->A8 (AE dj ann kn (n+100) 55) ZR (ann 55 (BU ZR)) m ⟨1,[(1,true,.ptr 0 1 0 0),(4,true,i k)],⟨[],[(1,0,.box (AD c))]⟩⟩ =
   if (c.chairs.drop k).all JI=true then some (.exit 2,⟨1,fr,⟨[],[(1,0,.box (AD c))]⟩⟩) else some (.ret,⟨1,[(2,true,.bool false)],⟨[],[]⟩⟩)
 |0,k,hk=>by
  have:k=c.chairs.length:=by omega
  subst this;rw[cx];refine⟨?fr,?g1,fun n m hm=>?g2⟩;case g2=>
   obtain⟨m,rfl⟩:=qNz m (by omega)
   rw[AB]
   simp[AD]
   rfl
  case g1=>simp
 |d+1,k,hk=>by
  have hk':k<c.chairs.length:=by omega
  have hw:=BM (k:=k) (by omega);obtain⟨fr,e1,ih⟩:=A13 c hl d (k+1) (by omega);rw[bq hk',bf];refine⟨fr,e1,fun n m hm=>?_⟩;obtain⟨m,rfl⟩:=qNz m (by omega);have ih:=ih n m (by omega);have es:JI c.chairs[k]=!decide ((7:Int)<(c.chairs[k].length:Int)):=rfl;rw[es];generalize e1:decide ((7:Int)<(c.chairs[k].length:Int))=z1;generalize (c.chairs.drop (k+1)).all JI=z at ih|-;rw[AB];simp only[AD]at ih|-;cases z1<;>cases z<;>(simp at ih;simp[AU,hk',hw,e1,ih])
theorem ARX(n:Nat)(c:AP):AY dj kn (AE dj ann kn (n+1400)) 18 [.agg (AD c)]=some (.bool (fM c)):=by
 rw[AN rfl,AM Tryz.func18 b18 rfl (by simp[AD,AU,BC,AS])];have qT:=fun n=>A9L n c.beach;unfold fM;have es:JI c.plan=!decide ((7:Int)<(c.plan.length:Int)):=rfl;have et:JI c.chairs=!decide ((7:Int)<(c.chairs.length:Int)):=rfl;rw[es,et];generalize e1:decide ((7:Int)<(c.plan.length:Int))=z1;generalize e2:decide ((7:Int)<(c.chairs.length:Int))=z2;generalize e3:decide ((5:Int)<(c.fams.length:Int))=z3;generalize XX c.beach=z4 at *;simp only[AC]at qT;by_cases h:z4=true/\z1=false/\z2=false/\z3=false
 ·obtain⟨rfl,rfl,rfl,rfl⟩:=h;have h1:=of_decide_eq_false e1;have h2:=of_decide_eq_false e2;obtain⟨f1,g1,q1⟩:=A12 c (by omega) c.plan.length 0 (by omega);obtain⟨f2,g2,q2⟩:=A13 c (by omega) c.chairs.length 0 (by omega);have q1:=fun n m=>q1 n (m+100) (by omega);have q2:=fun n m=>q2 n (m+100) (by omega);rw[ck]at q1 q2;generalize c.plan.all JI=y1 at *;generalize c.chairs.all JI=y2 at *;simp only[AD]at q1 q2|-;cases y1<;>cases y2<;>(simp at q1 q2;simp[c18,AF,qT,e1,e2,e3,q1,q2,g1])
 ·simp only[AD]at|-;cases z4<;>cases z1<;>cases z2<;>cases z3<;>first|exact absurd ⟨rfl,rfl,rfl,rfl⟩ h|simp[c18,AF,qT,e1,e2,e3]
theorem A14{k:Nat}(hk:k<=100000)(q g n:Nat):BW dj 22 k [[.vec 0 q g n]]=true:=by rw[BQ (by simp) (by simp)];simp[maxLen];omega
theorem AJ3(l k:Nat)(o:Option (Nat×AX))(ls:List (List Int)):(ls.map AV).map (ct (BJ l k o 3))=ls.map AV:=by rw[cn];exact bh fun x _=>rfl
theorem A15(ls:List (List Int)):(ls.map AV).map (ct xN)=ls.map AV:=by rw[cn];exact bh fun x _=>rfl
theorem dX(k γ:Nat)(h:List V)(t:List (List V)):pv k γ (h::t)=.vec 0 k γ (t.length+1):=rfl
theorem slN:sl []=.nil:=rfl
theorem slC(e:List V)(es:List (List V)):sl (e::es)=.list false (e::es):=rfl
theorem ARY(ls:List (List Int))(h1:ls.length<=100)(h2:∀l∈ls,l.length<=100):∀(d k c γ:Nat),k+d=ls.length->∃fr c' γ',fr=[(8,true,V.bool false),(7,true,i ls.length),(6,true,FV ls),(5,true,i ls.length),(0,true,FV ls),(3,true,pv 18 γ' (ls.map AV)),(4,true,i ls.length)]/\∀n m,d<m->A8 (AE dj ann kn (n+200) 20) ZS (ann 20 (BU ZS)) m ⟨c,[(0,true,FV ls),(3,true,pv 18 γ ((ls.take k).map AV)),(4,true,i k)],⟨[],pl 18 γ 22 ((ls.take k).map AV)⟩⟩ =
  some (.exit 0,⟨c',fr,⟨[],pl 18 γ' 22 (ls.map AV)⟩⟩)
 |0,k,c,γ,hk=>by
  have:k=ls.length:=by omega
  subst this;rw[bm];refine⟨_,c,γ,rfl,fun n m hm=>?_⟩;obtain⟨m,rfl⟩:=qNz m (by omega);rw[AB];simp
 |d+1,k,c,γ,hk=>by
  have hk':k<ls.length:=by omega
  have hw:=BM (k:=k) (by omega);have h3:=h2 _ (bw hk');have hst:(ls.take (k+1)).map AV=(ls.take k).map AV++[AV ls[k]]:=by rw[bz hk',bt];rfl
  have hRl:((ls.take k).map AV).length=k:=by rw[cm,bn];omega
  have hto:=fun o=>AJ3 0 16 o (ls.take k);have hR1:∀e∈(ls.take k).map AV,e.length=1:=fun e he=>by obtain⟨l,_,rfl⟩:=bg.1 he;rfl
  have hwk:=A15 (ls.take k);have ha:=fun q g n=>A14 (k:=((ls.take k).map AV).length) (by omega) q g n;have hai:=A9H (k:=0) (l:=ls[k]) (by omega);generalize hLk:ls[k]=L at *;cases L with
  |nil=>
   obtain⟨fr,c',γ',e1,ih⟩:=ARY ls h1 h2 d (k+1) (c+1+1) (c+1) (by omega)
   refine⟨fr,c',γ',e1,fun n m hm=>?_⟩
   obtain⟨m,rfl⟩:=qNz m (by omega)
   have ih:=ih n m (by omega)
   rw[hst]at ih
   generalize ls.map AV=fin at *
   generalize (ls.take k).map AV=R at *
   rw[AB]
   simp at hai
   cases R with
   |nil=>simp[AV,li,dX]at ih ha;simp[show c+1+1=c+2 from rfl,hk',hw,hLk,AV,ha,hai,ih]
   |cons r R=>
    have hR2:=hR1 r (by simp)
    have hR3:=eq_true (fun e he=>hR1 e (bx r he):∀e∈R,e.length=1)
    simp[AV,li,dX]at ih ha hto hwk
    simp[show c+1+1=c+2 from rfl,hk',hw,hLk,AV,ha,hai,ih,hto,hwk,hR2,hR3,dX]
  |cons x L=>
   obtain⟨fr,c',γ',e1,ih⟩:=ARY ls h1 h2 d (k+1) (c+1+1) (c+1) (by omega)
   refine⟨fr,c',γ',e1,fun n m hm=>?_⟩
   obtain⟨m,rfl⟩:=qNz m (by omega)
   have ih:=ih n m (by omega)
   rw[hst]at ih
   generalize ls.map AV=fin at *
   generalize (ls.take k).map AV=R at *
   rw[AB]
   simp[AJ]at hai
   cases R with
   |nil=>simp[AV,AJ,li,dX]at ih ha;simp[show c+1+1=c+2 from rfl,hk',hw,hLk,AV,AJ,ha,hai,ih]
   |cons r R=>
    have hR2:=hR1 r (by simp)
    have hR3:=eq_true (fun e he=>hR1 e (bx r he):∀e∈R,e.length=1)
    simp[AV,AJ,li,dX]at ih ha hto hwk
    simp[show c+1+1=c+2 from rfl,hk',hw,hLk,AV,AJ,ha,hai,ih,hto,hwk,hR2,hR3,dX]
theorem AJ4(n:Nat)(ls:List (List Int))(h1:ls.length<=100)(h2:∀l∈ls,l.length<=100):AY dj kn (AE dj ann kn (n+400)) 69 [FV ls]=some (sl (ls.map AV)):=by rw[AN rfl,AM Tryz.func69 b69 rfl (by simp)];obtain⟨fr,c',γ',e1,q⟩:=ARY ls h1 h2 ls.length 0 0 0 (by omega);have q:=fun n m=>q n (m+200) (by omega);simp at q e1;simp[c69,AF,q,e1]
theorem A16{k:Nat}{g:Nat×Int}(h:k<=1000):BW dj 135 k [[i (g.1:Int),i g.2]]=true:=by rw[BQ (by simp) (by simp)];simp[maxLen];omega
theorem zV{x N j:Nat}:((j:Int)∈BR x N)↔j<N/\x.testBit j=true:=by
 unfold BR;rw[bg];constructor
 ·rintro ⟨i,hi,e⟩;rw[List.mem_filter,cq]at hi;have:i=j:=by omega
  subst this;exact hi
 ·intro h;exact⟨j,by rw[List.mem_filter,cq];exact h,rfl⟩
theorem ADG(x j:Nat):decide ((((x / 2 ^ j:Nat):Int).tmod 2)=0)=!x.testBit j:=by rw[<-wX];have h:=Int.tmod_eq_emod_of_nonneg (a:=((x / 2 ^ j:Nat):Int)) (b:=2) (Int.natCast_nonneg _);rw[h];rcases Int.emod_two_eq ((x / 2 ^ j:Nat):Int)with h|h<;>rw[h]<;>rfl
def D0(c:AP)(x:Nat):List (Nat×Int):=AZ c (BR x c.fams.length)
theorem AJ5(c:AP)(hl:c.fams.length<=30)(x:Nat):∀(d k g γ:Nat),k+d=c.fams.length->0<g->∃g' γ' fr,BG fr 5=some (true,pv 30 γ' ((D0 c x).map AW)) /\
  ∀n m,d<m->A8 (AE dj ann kn (n+100) 32) ZT (ann 32 (BU ZT)) m ⟨g,[(1,true,i x),(2,true,.ptr 0 2 0 0),(5,true,pv 30 γ ((B5 c.fams (BR x c.fams.length) k).map AW)),(6,true,i k)],⟨[],(2,0,.box (AD c))::pl 30 γ 135 ((B5 c.fams (BR x c.fams.length) k).map AW)⟩⟩ =
   some (.exit 0,⟨g',fr,⟨[],(2,0,.box (AD c))::pl 30 γ' 135 ((D0 c x).map AW)⟩⟩)
 |0,k,g,γ,hk,hg=>by
  obtain rfl:k=c.fams.length:=by omega
  have e:B5 c.fams (BR x c.fams.length) c.fams.length=D0 c x:=rfl;rw[e];generalize D0 c x=R;refine⟨g,γ,?fr,?g1,fun n m hm=>?g2⟩;case g2=>
   obtain⟨m,rfl⟩:=qNz m (by omega)
   rw[AB]
   simp[AD]
   rfl
  case g1=>simp
 |d+1,k,g,γ,hk,hg=>by
  have hk':k<c.fams.length:=by omega
  have hw:=BM (k:=k) (by omega);have hgl:=N3 c.fams (BR x c.fams.length) k;have hf:c.fams.getD k ⟨0,0,false,false⟩=c.fams[k]:=by rw[bj,bk hk'];rfl
  have hst:B5 c.fams (BR x c.fams.length) (k+1)=B5 c.fams (BR x c.fams.length) k++(if decide ((k:Int)∈BR x c.fams.length)=true then[] else[(k,c.fams[k].size)]):=by rw[<-hf];rfl
  have hin:decide ((k:Int)∈BR x c.fams.length)=x.testBit k:=by rw[Bool.eq_iff_iff,decide_eq_true_eq,zV];exact⟨fun h=>h.2,fun h=>⟨hk',h⟩⟩
  have happ:=A16 (k:=(B5 c.fams (BR x c.fams.length) k).length) (g:=(k,c.fams[k].size)) (by omega);have e1:=vD (x:=x) (j:=k) (by omega);have e2:=MG (p:=k) (by omega);have hb:=ADG x k;rw[hin]at hst;have hp1:Nat.beq 2 1=false:=rfl;generalize ((x / 2 ^ k:Nat):Int)=X at e1 hb;cases hbit:x.testBit k with
  |true=>
   rw[hbit]at hb hst
   rw[if_pos rfl,List.append_nil]at hst
   obtain⟨g',γ',fr,q1,ih⟩:=AJ5 c hl x d (k+1) g γ (by omega) hg
   refine⟨g',γ',fr,q1,fun n m hm=>?_⟩
   obtain⟨m,rfl⟩:=qNz m (by omega)
   have ih:=ih n m (by omega)
   rw[hst]at ih
   generalize B5 c.fams (BR x c.fams.length) k=R at *
   rw[AB]
   simp only[AD]at ih|-
   simp at hb
   cases R<;>(simp at ih;simp[hk',hw,NG,e1,e2,-KE,hb,ih])
  |false=>
   rw[hbit]at hb hst
   rw[if_neg (by decide)]at hst
   obtain⟨g',γ',fr,q1,ih⟩:=AJ5 c hl x d (k+1) (g+1) g (by omega) (by omega)
   refine⟨g',γ',fr,q1,fun n m hm=>?_⟩
   obtain⟨m,rfl⟩:=qNz m (by omega)
   have ih:=ih n m (by omega)
   rw[hst]at ih
   generalize B5 c.fams (BR x c.fams.length) k=R at *
   rw[AB]
   simp only[AD]at ih|-
   simp at hb
   cases R with
   |nil=>simp[AW,dX]at ih happ;simp[hk',hw,NG,e1,e2,-KE,hb,happ,AS,ih]
   |cons r R=>simp[AW,dX]at ih happ;simp[hk',hw,NG,e1,e2,-KE,hb,happ,AS,AW,dX,ih]
theorem ADH(n:Nat)(c:AP)(hl:c.fams.length<=30)(x:Nat):AY dj kn (AE dj ann kn (n+200)) 26 [.agg (AD c),i x]=some (sl ((D0 c x).map AW)):=by
 rw[AN rfl,AM Tryz.func26 b26 rfl (by simp[AD,AU,BC,AS])];obtain⟨g',γ',fr,e1,q⟩:=AJ5 c hl x c.fams.length 0 1 0 (by omega) (by omega);have q:=fun n m=>q n (m+100) (by omega);have e0:B5 c.fams (BR x c.fams.length) 0=[]:=rfl;rw[e0]at q;have hcl:∀e∈(D0 c x).map AW,∀v∈e,AG 8 v=true:=fun e he v hv=>by obtain⟨l,_,rfl⟩:=bg.1 he;simp only[AW,cp,cd,or_false]at hv;rcases hv with rfl|rfl<;>rfl
 generalize (D0 c x).map AW=R at *;simp only[AD]at q|-;simp at q e1;simp[c26,AF,q,e1];exact hcl
theorem VH{G:List (Nat×Int)}{ss:List (Int×Int)}{j q:Nat}(h:q<j):A2 G (ss.take j) q=A2 G ss q:=by unfold A2;rw[bj,bj,bj,List.getElem?_take_of_lt h]
theorem ZF{c:AP}{G:List (Nat×Int)}{ss:List (Int×Int)}{t:Nat}:JH c G (ss.take (t+1)) t=JH c G ss t:=by
 unfold JH;rw[VH (by omega)];congr 1;have:∀l:List Nat,(∀q∈l,q<t)->l.all (fun q=>RY c (A2 G ss t) (A2 G (ss.take (t+1)) q))=l.all fun q=>RY c (A2 G ss t) (A2 G ss q):=fun l hl=>by
  induction l with
  |nil=>rfl
  |cons x l ih=>rw[bf,bf,ih fun y hy=>hl y (by simp[hy]),VH (by have:=hl x (by simp);omega)]
 exact this _ fun q hq=>cq.1 hq
theorem AOS(c:AP)(hl:c.chairs.length<=100):∀(d k:Nat),k+d=c.chairs.length->∃fr,BG fr 1=some (true,.ptr 0 1 0 0) /\
  ∀n m,d<m->A8 (AE dj ann kn (n+100) 76) TF (ann 76 (BU TF)) m ⟨1,[(1,true,.ptr 0 1 0 0),(4,true,i k)],⟨[],[(1,0,.box (AD c))]⟩⟩ =
   if (c.chairs.drop k).all (fun l=>decide ((l.length:Int)=c.beach.places))=true then some (.exit 0,⟨1,fr,⟨[],[(1,0,.box (AD c))]⟩⟩) else some (.ret,⟨1,[(2,true,i 1)],⟨[],[]⟩⟩)
 |0,k,hk=>by
  have:k=c.chairs.length:=by omega
  subst this;rw[cx];refine⟨?fr,?g1,fun n m hm=>?g2⟩;case g2=>
   obtain⟨m,rfl⟩:=qNz m (by omega)
   rw[AB]
   simp[AD]
   rfl
  case g1=>simp
 |d+1,k,hk=>by
  have hk':k<c.chairs.length:=by omega
  have hw:=BM (k:=k) (by omega);obtain⟨fr,e1,ih⟩:=AOS c hl d (k+1) (by omega);rw[bq hk',bf];refine⟨fr,e1,fun n m hm=>?_⟩;obtain⟨m,rfl⟩:=qNz m (by omega);have ih:=ih n m (by omega);generalize e1:decide ((c.chairs[k].length:Int)=c.beach.places)=z1;generalize (c.chairs.drop (k+1)).all (fun l=>decide ((l.length:Int)=c.beach.places))=z at ih|-;rw[AB];simp only[AD]at ih|-;cases z1<;>cases z<;>(simp at ih;simp[AU,hk',hw,e1,ih])
theorem AOT(c:AP)(hl:c.fams.length<=100):∀(d k:Nat),k+d=c.fams.length->∃fr,
  ∀n m,d<m->A8 (AE dj ann kn (n+200) 76) TG (ann 76 (BU TG)) m ⟨1,[(1,true,.ptr 0 1 0 0),(5,true,i k)],⟨[],[(1,0,.box (AD c))]⟩⟩ =
   if (c.fams.drop k).all KO=true then some (.exit 2,⟨1,fr,⟨[],[(1,0,.box (AD c))]⟩⟩) else some (.ret,⟨1,[(2,true,i 1)],⟨[],[]⟩⟩)
 |0,k,hk=>by
  have:k=c.fams.length:=by omega
  subst this;rw[cx];refine⟨?fr,fun n m hm=>?g2⟩;case g2=>
   obtain⟨m,rfl⟩:=qNz m (by omega)
   rw[AB]
   simp[AD]
   rfl
 |d+1,k,hk=>by
  have hk':k<c.fams.length:=by omega
  have hw:=BM (k:=k) (by omega);obtain⟨fr,ih⟩:=AOT c hl d (k+1) (by omega);rw[bq hk',bf];refine⟨fr,fun n m hm=>?_⟩;obtain⟨m,rfl⟩:=qNz m (by omega);have ih:=ih n m (by omega);have ef:KO c.fams[k]=(GA c.fams[k].size 1 4&&GA c.fams[k].good 0 5):=rfl;have q1:=fun n=>kIn n c.fams[k].size 1 4;have q2:=fun n=>kIn n c.fams[k].good 0 5;rw[ef];generalize GA c.fams[k].size 1 4=z1 at *;generalize GA c.fams[k].good 0 5=z2 at *;generalize (c.fams.drop (k+1)).all KO=z at ih|-;rw[AB];simp only[AD]at ih|-;cases z1<;>cases z2<;>cases z<;>(simp at ih;simp[AS,hk',hw,q1,q2,ih])
theorem AJ6(n:Nat)(c:AP)(hw:∀l∈c.beach.winds,l.length<=100)(hp:c.plan.length<=100)(hch:c.chairs.length<=100):AY dj kn (AE dj ann kn (n+2400)) 70 [.agg (AD c)]=some (i (E3 c)):=by
 rw[AN rfl,AM Tryz.func70 b70 rfl (by simp[AD,AU,BC,AS])];have qf:=fun n=>AI5 n c.beach hw;unfold E3;by_cases a1:3<c.fams.length
 ·have e1:(3:Int)<(c.fams.length:Int):=by omega
  rw[if_pos a1];simp only[AD];simp[c70,AF,e1]
 rw[if_neg a1];have e1:¬(3:Int)<(c.fams.length:Int):=by omega
 by_cases a2:DU c.beach≠0
 ·rw[if_pos a2];simp only[AD,AC]at qf|-;simp[c70,AF,e1,qf,a2]
 rw[if_neg a2];have a2:DU c.beach=0:=by simpa using a2
 have hb:=TO a2;have qp:=fun n=>AIX n c.beach hb c.plan hp;have qt:=fun n=>fP n c.beach hb;rw[a2]at qf;by_cases a3:EG c.beach c.plan=false
 ·rw[if_pos a3];rw[a3]at qp;simp only[AD,AC]at qf qp|-;simp[c70,AF,e1,qf,qp]
 rw[if_neg a3];have a3:EG c.beach c.plan=true:=by simpa using a3
 rw[a3]at qp;by_cases a4:BL c.beach=[]
 ·rw[if_pos a4];rw[a4]at qt;simp only[AD,AC]at qf qp qt|-;simp at qt;simp[c70,AF,e1,qf,qp,qt]
 rw[if_neg a4];have a4':¬((BL c.beach).length:Int)=0:=fun h=>a4 (List.eq_nil_of_length_eq_zero (by omega));by_cases a5:(c.chairs.length:Int)=c.beach.rows
 ·have ec:G6 c=c.chairs.all (fun l=>decide ((l.length:Int)=c.beach.places)):=by unfold G6;rw[decide_eq_true a5,Bool.true_and]
  rw[ec];obtain⟨f1,g1,q1⟩:=AOS c hch c.chairs.length 0 (by omega);obtain⟨f2,q2⟩:=AOT c (by omega) c.fams.length 0 (by omega);have q1:=fun n m=>q1 n (m+101) (by omega);have q2:=fun n m=>q2 n (m+101) (by omega);rw[ck]at q1 q2;generalize c.chairs.all (fun l=>decide ((l.length:Int)=c.beach.places))=y1 at *;generalize c.fams.all KO=y2 at *;generalize BL c.beach=T at *;simp only[AD,AC]at qf qp qt q1 q2|-;cases y1<;>cases y2<;>(simp at q1 q2;simp[c70,AF,e1,qf,qp,qt,a4,a5,q1,q2,g1])
 ·have ec:G6 c=false:=by unfold G6;rw[decide_eq_false a5,Bool.false_and]
  rw[if_pos ec];generalize BL c.beach=T at *;simp only[AD,AC]at qf qp qt|-;simp[c70,AF,e1,qf,qp,qt,a4,a5]
theorem AJ7(n:Nat)(c:AP)(hw:∀l∈c.beach.winds,l.length<=100)(hp:c.plan.length<=100)(hch:c.chairs.length<=100):AY dj kn (AE dj ann kn (n+2500)) 23 [.agg (AD c)]=some (i (E3 c)):=by rw[AN rfl,AM Tryz.func23 b23 rfl (by simp[AD,AU,BC,AS])];have q:=fun n=>AJ6 n c hw hp hch;generalize E3 c=E at *;simp only[AD]at q|-;simp[c23,AF,q,AU,BC,AS]
theorem AJ8(l k:Nat)(o:Option (Nat×AX))(ls:List (List Bool)):(ls.map AU).map (ct (BJ l k o 3))=ls.map AU:=by rw[cn];exact bh fun x _=>rfl
theorem A17(ls:List (List Bool)):(ls.map AU).map (ct xN)=ls.map AU:=by rw[cn];exact bh fun x _=>rfl
theorem R3{P:Program}{fr:Fr}{s:St}(e d c:Nat)(ys:List (List V))(h:BW P e 0 ys=true):adV P e d c fr s .nil ys=some (⟨c+1,(d,true,.vec s.up.length d c ys.length)::fr,s.put s.up.length d c (.vec e ys)⟩,[(s.up.length,d),(s.up.length,d+J4)]):=by unfold adV;simp[I2,h]
theorem A18{k:Nat}{l:List Bool}(h:k+l.length<=100000):BW dj 4 k (l.map BC)=true:=by rw[BQ (by simp) (by simp)];simp[maxLen,BC];omega
theorem A19{k:Nat}(hk:k<=100000)(q g n:Nat):BW dj 97 k [[.vec 0 q g n]]=true:=by rw[BQ (by simp) (by simp)];simp[maxLen];omega
theorem A2A{k:Nat}{l:List WX}(h:k+l.length<=100000):BW dj 94 k (l.map AS)=true:=by rw[BQ (by simp) (by simp)];simp[maxLen,AS];omega
abbrev bxC(b:AK)(p:List (List Int))(v w:V):AX:=.box (IJ b++[sl (p.map AV),v,w])
theorem ARZ(c:AP)(h1:c.chairs.length<=100)(h2:∀l∈c.chairs,l.length<=100)(cs2:List V)(hcs:∀o,cs2.map (BJ 0 28 o 3)=cs2):∀(d k g γ:Nat),k+d=c.chairs.length->2<g->∃g' γ',g<=g'/\∀n m,d<m->A8 (AE dj ann kn (n+200) 59) Z6 (ann 59 (BU Z6)) m ⟨g,[(1,true,.ptr 0 1 0 0),(2,true,.ptr 0 2 1 0),(3,true,.ptr 0 3 2 0),(4,true,i k)],⟨[],(1,0,.box (AD c))::(2,1,.box cs2)::(3,2,bxC c.beach c.plan (pv 30 γ ((c.chairs.take k).map AU)) .nil)::pl 30 γ 97 ((c.chairs.take k).map AU)⟩⟩ =
  some (.exit 0,⟨g',[(18,true,.bool false),(17,true,i c.chairs.length),(16,true,.list false (c.chairs.map AU)),(15,true,.ptr 0 1 0 10),(14,true,i c.chairs.length),(1,true,.ptr 0 1 0 0),(2,true,.ptr 0 2 1 0),(3,true,.ptr 0 3 2 0),(4,true,i c.chairs.length)],⟨[],(1,0,.box (AD c))::(2,1,.box cs2)::(3,2,bxC c.beach c.plan (pv 30 γ' (c.chairs.map AU)) .nil)::pl 30 γ' 97 (c.chairs.map AU)⟩⟩)
 |0,k,g,γ,hk,hg=>by
  have:k=c.chairs.length:=by omega
  subst this;rw[bm];refine⟨g,γ,Nat.le_refl _,fun n m hm=>?_⟩;obtain⟨m,rfl⟩:=qNz m (by omega);rw[AB];simp only[AD,bxC,IJ];cases c.chairs<;>simp
 |d+1,k,g,γ,hk,hg=>by
  have hk':k<c.chairs.length:=by omega
  have hw:=BM (k:=k) (by omega);have h3:=h2 _ (bw hk');have hst:(c.chairs.take (k+1)).map AU=(c.chairs.take k).map AU++[AU c.chairs[k]]:=by rw[bz hk',bt];rfl
  have hRl:((c.chairs.take k).map AU).length=k:=by rw[cm,bn];omega
  have hto:=fun o=>AJ8 0 28 o (c.chairs.take k);have hwk:=A17 (c.chairs.take k);have hR1:∀e∈(c.chairs.take k).map AU,e.length=1:=fun e he=>by obtain⟨l,_,rfl⟩:=bg.1 he;rfl
  have ha:=fun q g n=>A19 (k:=((c.chairs.take k).map AU).length) (by omega) q g n;have hai:=A18 (k:=0) (l:=c.chairs[k]) (by omega);generalize hLk:c.chairs[k]=L at *;cases L with
  |nil=>
   obtain⟨g',γ',hgg,ih⟩:=ARZ c h1 h2 cs2 hcs d (k+1) (g+1+1) (g+1) (by omega) (by omega)
   refine⟨g',γ',by omega,fun n m hm=>?_⟩
   obtain⟨m,rfl⟩:=qNz m (by omega)
   have ih:=ih n m (by omega)
   rw[hst]at ih
   generalize (c.chairs.take k).map AU=R at *
   rw[AB]
   simp only[AD,bxC,IJ]at ih|-
   simp at hai
   cases R with
   |nil=>simp[AU,lb,dX]at ih ha;simp[show g+1+1=g+2 from rfl,hk',hw,hLk,AU,ha,hai,hcs,ih,J4,R3,CD,B6,KK,ID,show 2<g+2 by omega]
   |cons r R=>
    have hR2:=hR1 r (by simp)
    have hR3:=eq_true (fun e he=>hR1 e (bx r he):∀e∈R,e.length=1)
    simp[AU,lb,dX]at ih ha hto hwk
    simp[show g+1+1=g+2 from rfl,hk',hw,hLk,AU,ha,hai,hcs,ih,hto,hwk,hR2,hR3,dX,J4,R3,CD,B6,KK,ID,show 2<g+2 by omega]
  |cons x L=>
   obtain⟨g',γ',hgg,ih⟩:=ARZ c h1 h2 cs2 hcs d (k+1) (g+1+1) (g+1) (by omega) (by omega)
   refine⟨g',γ',by omega,fun n m hm=>?_⟩
   obtain⟨m,rfl⟩:=qNz m (by omega)
   have ih:=ih n m (by omega)
   rw[hst]at ih
   generalize (c.chairs.take k).map AU=R at *
   rw[AB]
   simp only[AD,bxC,IJ]at ih|-
   simp[BC]at hai
   cases R with
   |nil=>simp[AU,BC,lb,dX]at ih ha;simp[show g+1+1=g+2 from rfl,hk',hw,hLk,AU,BC,ha,hai,hcs,ih,J4,R3,CD,B6,KK,ID,show 2<g+2 by omega]
   |cons r R=>
    have hR2:=hR1 r (by simp)
    have hR3:=eq_true (fun e he=>hR1 e (bx r he):∀e∈R,e.length=1)
    simp[AU,BC,lb,dX]at ih ha hto hwk
    simp[show g+1+1=g+2 from rfl,hk',hw,hLk,AU,BC,ha,hai,hcs,ih,hto,hwk,hR2,hR3,dX,J4,R3,CD,B6,KK,ID,show 2<g+2 by omega]
theorem A2B(c:AP)(h1:c.fams.length<=100)(cs2:List V)(γ3:Nat)(R:List (List V)):∀(d k g γ:Nat),k+d=c.fams.length->2<g->∃g' γ',g<=g'/\∀n m,d<m->A8 (AE dj ann kn (n+200) 59) Z7 (ann 59 (BU Z7)) m ⟨g,[(1,true,.ptr 0 1 0 0),(2,true,.ptr 0 2 1 0),(3,true,.ptr 0 3 2 0),(5,true,i k)],⟨[],(1,0,.box (AD c))::(2,1,.box cs2)::(3,2,bxC c.beach c.plan (pv 30 γ3 R) (pv 56 γ ((c.fams.take k).map AS)))::(pl 30 γ3 97 R++pl 56 γ 94 ((c.fams.take k).map AS))⟩⟩ =
  some (.exit 2,⟨g',[(36,true,.bool false),(35,true,i c.fams.length),(34,true,.list false (c.fams.map AS)),(33,true,.ptr 0 1 0 11),(32,true,i c.fams.length),(1,true,.ptr 0 1 0 0),(2,true,.ptr 0 2 1 0),(3,true,.ptr 0 3 2 0),(5,true,i c.fams.length)],⟨[],(1,0,.box (AD c))::(2,1,.box cs2)::(3,2,bxC c.beach c.plan (pv 30 γ3 R) (pv 56 γ' (c.fams.map AS)))::(pl 30 γ3 97 R++pl 56 γ' 94 (c.fams.map AS))⟩⟩)
 |0,k,g,γ,hk,hg=>by
  have:k=c.fams.length:=by omega
  subst this;rw[bm];refine⟨g,γ,Nat.le_refl _,fun n m hm=>?_⟩;obtain⟨m,rfl⟩:=qNz m (by omega);rw[AB];simp only[AD,bxC,IJ];cases R<;>cases c.fams<;>simp
 |d+1,k,g,γ,hk,hg=>by
  have hk':k<c.fams.length:=by omega
  have hw:=BM (k:=k) (by omega);have hst:(c.fams.take (k+1)).map AS=(c.fams.take k).map AS++[AS c.fams[k]]:=by rw[bz hk',bt];rfl
  have hRl:((c.fams.take k).map AS).length=k:=by rw[cm,bn];omega
  have hS1:∀e∈(c.fams.take k).map AS,e.length=4:=fun e he=>by obtain⟨l,_,rfl⟩:=bg.1 he;rfl
  have ha:=A2A (k:=((c.fams.take k).map AS).length) (l:=[c.fams[k]]) (by rw[hRl];simp;omega);obtain⟨g',γ',hgg,ih⟩:=A2B c h1 cs2 γ3 R d (k+1) (g+1+1) (g+1) (by omega) (by omega);refine⟨g',γ',by omega,fun n m hm=>?_⟩;obtain⟨m,rfl⟩:=qNz m (by omega);have ih:=ih n m (by omega);rw[hst]at ih;generalize (c.fams.take k).map AS=S at *;generalize hLk:c.fams[k]=f at *;rw[AB];simp only[AD,bxC,IJ]at ih|-;cases S with
  |nil=>cases R<;>(simp[AS,dX]at ih ha;simp[hk',hw,hLk,AS,dX,ha,ih,show 0<g by omega])
  |cons q S=>
   have hS2:=hS1 q (by simp)
   have hS3:=eq_true (fun e he=>hS1 e (bx q he):∀e∈S,e.length=4)
   cases R<;>(simp[AS,dX]at ih ha;simp[hk',hw,hLk,AS,dX,ha,ih,hS2,hS3,show 0<g by omega])
def R4(c:AP):List V:=IJ c.beach++[sl (c.plan.map AV),sl (c.chairs.map AU),sl (c.fams.map AS)]
theorem AR0(n:Nat)(c:AP)(ht:fM c=true):AY dj kn (AE dj ann kn (n+900)) 21 [.agg (AD c)]=some (.agg (R4 c)):=by
 rw[AN rfl,AM Tryz.func21 b21 rfl (by simp[AD,AU,BC,AS])];obtain⟨t1,t2,t3,t4,t5,t6⟩:=ZE ht;simp only[XX,cw,cj,Bool.or_eq_false_iff,Bool.not_eq_false',decide_eq_false_iff_not]at t1;obtain⟨⟨⟨⟨⟨u1,u2⟩,u3⟩,u4⟩,u5⟩,_⟩:=t1;obtain⟨u6,u7⟩:=WT u3;have qB:=fun n=>AXD n c.beach (by omega) (by omega) (by omega) (fun l hl=>by have:=u7 l hl;omega) (by omega) (by omega);have qL:=fun n=>AJ4 n c.plan (by omega) (fun l hl=>by have:=t5 l hl;omega);have hz:∀o,([i 0,i 0,i 0,i 0,.nil,.nil,.nil,.nil,.nil,.nil,.nil,.nil]:List V).map (BJ 0 28 o 3)=[i 0,i 0,i 0,i 0,.nil,.nil,.nil,.nil,.nil,.nil,.nil,.nil]:=fun o=>rfl;obtain⟨g1,γ1,h1,q1⟩:=ARZ c (by omega) (fun l hl=>by have:=t6 l hl;omega) _ hz c.chairs.length 0 3 0 (by omega) (by omega);obtain⟨g2,γ2,h2,q2⟩:=A2B c (by omega) [i 0,i 0,i 0,i 0,.nil,.nil,.nil,.nil,.nil,.nil,.nil,.nil] γ1 (c.chairs.map AU) c.fams.length 0 g1 0 (by omega) (by omega);have q1:=fun n m=>q1 n (m+100) (by omega);have q2:=fun n m=>q2 n (m+100) (by omega);rw[show(c.chairs.take 0).map AU=[] from rfl]at q1;rw[show(c.fams.take 0).map AS=[] from rfl]at q2;have hg2:1<g2:=by omega
 have c1:∀e∈c.chairs.map AU,∀v∈e,AG 7 v=true:=fun e he v hv=>by obtain⟨l,_,rfl⟩:=bg.1 he;simp only[AU,cp,cd,or_false]at hv;subst hv;simp[BC]
 have c2:∀e∈c.fams.map AS,∀v∈e,AG 7 v=true:=fun e he v hv=>by obtain⟨l,_,rfl⟩:=bg.1 he;simp only[AS,cp,cd,or_false]at hv;rcases hv with rfl|rfl|rfl|rfl<;>rfl
 unfold R4;simp only[AD,AC,bxC,IJ]at q1 q2 qB qL|-;generalize c.chairs.map AU=R at *;generalize c.fams.map AS=S at *;cases R with
 |nil=>
  cases S with
  |nil=>
   simp at q1 q2
   simp[c21,AF,qB,qL,q1,q2,hg2,slN]
  |cons t S=>
   have s1:=eq_true (c2 t (by simp))
   have s2:=eq_true (fun e he=>c2 e (bx t he):∀e∈S,∀v∈e,AG 7 v=true)
   simp[dX]at q1 q2
   simp[c21,AF,qB,qL,q1,q2,s1,s2,hg2,slN,slC]
 |cons r R=>
  have r1:=eq_true (c1 r (by simp))
  have r2:=eq_true (fun e he=>c1 e (bx r he):∀e∈R,∀v∈e,AG 7 v=true)
  cases S with
  |nil=>
   simp[dX]at q1 q2
   simp[c21,AF,qB,qL,q1,q2,r1,r2,hg2,slN,slC]
  |cons t S=>
   have s1:=eq_true (c2 t (by simp))
   have s2:=eq_true (fun e he=>c2 e (bx t he):∀e∈S,∀v∈e,AG 7 v=true)
   simp[dX]at q1 q2
   simp[c21,AF,qB,qL,q1,q2,r1,r2,s1,s2,hg2,slC]
end Go.Proofs.Tryz.Op
