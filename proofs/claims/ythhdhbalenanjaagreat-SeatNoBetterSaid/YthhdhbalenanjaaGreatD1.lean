/- Contracts of the reference: People, Chairs, Minds, Groups. No condition but small numbers. -/
import Derived.Test.YthhdhbalenanjaaGreatC1
import Derived.Test.YthhdhbalenanjaaGreatEa
open Go.Proofs.Tryz renaming prog->db
open List renaming getD_eq_getElem?_getD->bj,getElem?_eq_getElem->bk,drop_eq_getElem_cons->bq,getElem_mem->bw,take_succ_eq_append_getElem->bx,mem_cons_of_mem->bz,range->bb,length_range->bc,map_congr_left->bf,map_append->bg,all_cons->bh,take_length->bm,length_take->bn,mem_map->bp,drop_eq_nil_of_le->cj,map_map->ck,not_mem_nil->cw,drop_zero->cx,getElem_range->cz,length_map->cd,mem_range->cn,drop_length->cp,mem_cons->dj,map_take->dk,sum_append->dq,count_le_length->dv,map->dz
open Bool renaming and_eq_true->cq,true_and->cg,not_eq_true'->cm,false_and->ct
open Option renaming getD_some->dx
set_option maxRecDepth 100000
set_option linter.unusedSimpArgs false
open Go Go.Pg Go.Proofs Go.Wind
namespace Go.Wind
def DM(G:List (Nat×Int)):Int:=(G.map (·.2)).sum
theorem jL{G:List (Nat×Int)}{k:Nat}(h:k<G.length):DM (G.take (k+1))=DM (G.take k)+G[k].2:=by unfold DM;rw[bx h,bg,dq];simp
theorem ZE:∀{G:List (Nat×Int)},(∀g∈G,0<=g.2/\g.2<=4)->0<=DM G/\DM G<=4*G.length
 |[],_=>by simp[DM]
 |g::G,h=>by have ih:=ZE (G:=G) fun x hx=>h x (by simp[hx]);have h1:=h g (by simp);simp only[DM,List.map_cons,List.sum_cons,List.length_cons]at ih|-;omega
end Go.Wind
namespace Go.Proofs.Tryz.Op
theorem A4W(G:List (Nat×Int))(hl:G.length<=100)(hg:∀g∈G,0<=g.2/\g.2<=4):∀(d k:Nat),k+d=G.length->∀n m,d<m->BF (AE db ann kn (n+100) 19) ZP (ann 19 (BW ZP)) m ⟨0,[(0,true,.list false (G.map AZ)),(3,true,i (DM (G.take k))),(4,true,i k)],⟨[],[]⟩⟩ =
  some (.exit 0,⟨0,[(8,true,.bool false),(7,true,i G.length),(6,true,.list false (G.map AZ)),(5,true,i G.length),(0,true,.list false (G.map AZ)),(3,true,i (DM G)),(4,true,i G.length)],⟨[],[]⟩⟩)
 |0,k,hk,n,m+1,hm=>by
  obtain rfl:k=G.length:=by omega
  rw[bm,AB];simp
 |d+1,k,hk,n,m+1,hm=>by
  have hk':k<G.length:=by omega
  have hw:=BM (k:=k) (by omega);have h1:=hg G[k] (bw hk');have h2:=ZE (G:=G.take k) fun x hx=>hg x (List.mem_of_mem_take hx);have h3:(G.take k).length<=100:=by rw[bn];omega
  have hwp:IntKind.i64.wrap (DM (G.take k)+G[k].2)=DM (G.take k)+G[k].2:=AU (by omega) (by omega);have ih:=A4W G hl hg d (k+1) (by omega) n m (by omega);rw[jL hk']at ih;generalize DM (G.take k)=S at *;generalize DM G=SS at *;rw[AB];simp at ih;simp[hk',hw,hwp,AZ,ih]
theorem AKH(n:Nat)(G:List (Nat×Int))(hl:G.length<=100)(hg:∀g∈G,0<=g.2/\g.2<=4):A2 db kn (AE db ann kn (n+300)) 72 [.list false (G.map AZ)]=some (i (DM G)):=by rw[AO rfl,AP Tryz.func72 b72 rfl (by simp[AZ])];have q:=fun n m=>A4W G hl hg G.length 0 (by omega) n (m+101) (by omega);rw[show DM (G.take 0)=0 from rfl]at q;generalize DM G=S at *;simp at q;simp[c72,AG,q]
theorem A4X(c:AV)(r:Nat)(hr:r<c.chairs.length)(hl:c.chairs[r].length<=100)(N:Nat)(hN:N<=100000):∀(d j:Nat),j+d=c.chairs[r].length->∃fr,BC fr 1=some (true,.ptr 0 1 0 0)/\BC fr 3=some (true,i ((N+c.chairs[r].count true:Nat):Int))/\BC fr 4=some (true,i r)/\∀n m,d<m->BF (AE db ann kn (n+200) 34) ZQ (ann 34 (BW ZQ)) m ⟨1,[(1,true,.ptr 0 1 0 0),(3,true,i ((N+(c.chairs[r].take j).count true:Nat):Int)),(4,true,i r),(5,true,i j)],⟨[],[(1,0,.box (AD c))]⟩⟩ =
  some (.exit 2,⟨1,fr,⟨[],[(1,0,.box (AD c))]⟩⟩)
 |0,j,hd=>by
  obtain rfl:j=c.chairs[r].length:=by omega
  rw[bm];refine⟨?fr,?g1,?g3,?g4,fun n m hm=>?g2⟩;case g2=>
   obtain⟨m,rfl⟩:=qNz m (by omega)
   rw[AB]
   simp[AD,hr,AR]
   rfl
  case g1=>simp
  case g3=>simp
  case g4=>simp
 |d+1,j,hd=>by
  have hj:j<c.chairs[r].length:=by omega
  have hw:=BM (k:=j) (by omega);obtain⟨fr,g1,g3,g4,ih⟩:=A4X c r hr hl N hN d (j+1) (by omega);refine⟨fr,g1,g3,g4,fun n m hm=>?_⟩;obtain⟨m,rfl⟩:=qNz m (by omega);have ih:=ih n m (by omega);rw[ZC _ hj]at ih;have hcl:(c.chairs[r].take j).count true<=100:=by have:=dv (a:=true) (l:=c.chairs[r].take j);rw[bn]at this;omega
  generalize (c.chairs[r].take j).count true=C at *;have hwC2:IntKind.i64.wrap ((N:Int)+(C:Int)+1)=((N:Int)+((C:Int)+1)):=by rw[AU (by omega) (by omega)];omega
  rw[AB];simp only[AD]at ih|-;cases hz:c.chairs[r][j]with
  |true=>
   rw[hz,if_pos rfl]at ih
   simp at ih
   simp[hr,hj,hw,hz,AR,A4,hwC2,ih]
  |false=>
   rw[hz,if_neg (by decide),Nat.add_zero]at ih
   simp at ih
   simp[hr,hj,hw,hz,AR,A4,ih]
theorem A4Y(c:AV)(hl:c.chairs.length<=100)(hr:∀l∈c.chairs,l.length<=100):∀(d r N:Nat),r+d=c.chairs.length->N<=100*r->∃fr,BC fr 3=some (true,i ((N+((c.chairs.drop r).map fun l=>l.count true).sum:Nat):Int))/\∀n m,d<m->BF (AE db ann kn (n+400) 34) ZR (ann 34 (BW ZR)) m ⟨1,[(1,true,.ptr 0 1 0 0),(3,true,i N),(4,true,i r)],⟨[],[(1,0,.box (AD c))]⟩⟩ =
  some (.exit 0,⟨1,fr,⟨[],[(1,0,.box (AD c))]⟩⟩)
 |0,r,N,hd,hN=>by
  obtain rfl:r=c.chairs.length:=by omega
  refine⟨?fr,?g3,fun n m hm=>?g2⟩;case g2=>
   obtain⟨m,rfl⟩:=qNz m (by omega)
   rw[AB]
   simp[AD]
   rfl
  case g3=>simp
 |d+1,r,N,hd,hN=>by
  have hj:r<c.chairs.length:=by omega
  have hw:=BM (k:=r) (by omega);have hlj:=hr c.chairs[r] (bw hj);obtain⟨f1,g1,g3,g4,q⟩:=A4X c r hj hlj N (by omega) c.chairs[r].length 0 (by omega);have q:=fun n m=>q n (m+101) (by omega);have hcl:=dv (a:=true) (l:=c.chairs[r]);obtain⟨fr,e3,ih⟩:=A4Y c hl hr d (r+1) (N+c.chairs[r].count true) (by omega) (by omega);have hs:N+c.chairs[r].count true+((c.chairs.drop (r+1)).map fun l=>l.count true).sum=N+((c.chairs.drop r).map fun l=>l.count true).sum:=by rw[bq hj,List.map_cons,List.sum_cons];omega
  rw[hs]at e3;refine⟨fr,e3,fun n m hm=>?_⟩;obtain⟨m,rfl⟩:=qNz m (by omega);have ih:=ih n m (by omega);generalize c.chairs[r].count true=C at *;simp only[List.take_zero,List.count_nil,Nat.add_zero]at q;rw[AB];simp only[AD]at ih q|-;simp at ih q g3;simp[hj,hw,AR,q,g1,g3,g4,ih]
theorem AD8(n:Nat)(c:AV)(hl:c.chairs.length<=100)(hr:∀l∈c.chairs,l.length<=100):A2 db kn (AE db ann kn (n+600)) 73 [.agg (AD c)]=some (i (EB c)):=by rw[AO rfl,AP Tryz.func73 b73 rfl (by simp[AD,AJ,AL,AF,AR,A4,AS])];obtain⟨fr,g3,q⟩:=A4Y c hl hr c.chairs.length 0 0 (by omega) (by omega);have q:=fun n m=>q n (m+101) (by omega);have e:((c.chairs.drop 0).map fun l=>l.count true).sum=EB c:=rfl;rw[e,Nat.zero_add]at g3;generalize EB c=T at *;simp only[AD]at q|-;simp at q g3;simp[c73,AG,q,g3]
theorem AKI(n:Nat)(c:AV)(a b:Nat)(ha:a<c.fams.length)(hb:b<c.fams.length):A2 db kn (AE db ann kn (n+300)) 122 [.agg (AD c),i a,i b]=some (.bool (JY c a b)):=by
 rw[AO rfl,AP Tryz.func122 BH6 rfl (by simp[AD,AJ,AL,AF,AR,A4,AS])];unfold JY;rw[YQ ha,YQ hb];have e:decide ((a:Int)=(b:Int))=decide (a=b):=decide_eq_decide.2 (by omega);have e2:decide (a≠b)=!decide (a=b):=by simp
 rw[e2];generalize decide (a=b)=z at *;rcases hF1:c.fams[a]with⟨s1,g1,d1,h1⟩;rcases hF2:c.fams[b]with⟨s2,g2,d2,h2⟩;simp only[AD];have p1:Nat.beq 4 1=false:=rfl;cases z<;>cases d1<;>cases h1<;>cases d2<;>cases h2<;>simp[A63,AG,e,ha,hb,hF1,hF2,AS,A3,BV,B7,BD,EX,EG,C0,GK,p1]
end Go.Proofs.Tryz.Op
namespace Go.Wind
def AW(G:List (Nat×Int))(ss:List (Int×Int))(k:Nat):Sp:=⟨(G.getD k (0,0)).1,(G.getD k (0,0)).2,(ss.getD k (0,0)).1,(ss.getD k (0,0)).2⟩
def LG(c:AV)(x y:Sp)(a b:Nat):Bool :=
 let d:=y.place+(a:Int)-x.place-(b:Int)
 decide (d=0)||((decide (d=1)||decide (d = -1))&&JY c y.fam x.fam)
theorem AA2(c:AV)(x y:Sp):RN c x y=(bb y.size.toNat).any fun a=>(bb x.size.toNat).any (LG c x y a):=rfl
def S5(c:AV)(x y:Sp):Bool:=decide (y.row≠x.row)||!RN c x y
end Go.Wind
namespace Go.Proofs.Tryz.Op
section
variable (c:AV)(G:List (Nat×Int))(ss:List (Int×Int))(t q:Nat)
set_option maxHeartbeats 1000000 in
theorem APN(hG:ss.length<=G.length)(ht:t+1=ss.length)(hq:q<t)(hs:ss.length<=100)(hf:∀g∈G,g.1<c.fams.length/\0<=g.2/\g.2<=4)(hp:0<=(AW G ss q).place/\(AW G ss q).place<=1000)(hx:0<=(AW G ss t).place/\(AW G ss t).place<=1000)(a:Nat)(ha:a<=4):∀(d b:Nat),b+d=(AW G ss t).size.toNat->∃fr,BC fr 1=some (true,.list false (G.map AZ))/\BC fr 2=some (true,.list false (ss.map AF))/\BC fr 3=some (true,.ptr 0 3 0 0)/\BC fr 7=some (true,i t)/\BC fr 8=some (true,.ptr 0 8 1 0)/\BC fr 9=some (true,i (AW G ss t).size)/\BC fr 10=some (true,i q)/\BC fr 11=some (true,i a) /\
  ∀n m,d<m->BF (AE db ann kn (n+400) 112) T4 (ann 112 (BW T4)) m ⟨2,[(1,true,.list false (G.map AZ)),(2,true,.list false (ss.map AF)),(3,true,.ptr 0 3 0 0),(7,true,i t),(8,true,.ptr 0 8 1 0),(9,true,i (AW G ss t).size),(10,true,i q),(11,true,i a),(12,true,i b)],⟨[],[(3,0,.box (AD c)),(8,1,.box [i (AW G ss t).row,i (AW G ss t).place])]⟩⟩ =
   if ((bb (AW G ss t).size.toNat).drop b).any (LG c (AW G ss t) (AW G ss q) a)=true then some (.ret,⟨2,[(6,true,.bool false)],⟨[],[]⟩⟩) else some (.exit 4,⟨2,fr,⟨[],[(3,0,.box (AD c)),(8,1,.box [i (AW G ss t).row,i (AW G ss t).place])]⟩⟩)
 |0,b,hd=>by
  have hgt:t<G.length:=by omega
  have h1:=hf G[t] (bw hgt);have hge:(AW G ss t).size=G[t].2:=by simp[AW,bj,bk hgt]
  have hb:(b:Int)=(AW G ss t).size:=by omega
  rw[cj (by rw[bc];omega),hb];refine⟨?fr,?g1,?g2,?g3,?g4,?g5,?g6,?g7,?g8,fun n m hm=>?g9⟩;case g9=>
   obtain⟨m,rfl⟩:=qNz m (by omega)
   rw[AB]
   simp[AD]
   rfl
  all_goals simp
 |d+1,b,hd=>by
  have hgt:t<G.length:=by omega
  have hgq:q<G.length:=by omega
  have hsq:q<ss.length:=by omega
  have h1:=hf G[t] (bw hgt);have h2:=hf G[q] (bw hgq);have et:(AW G ss t).size=G[t].2:=by simp[AW,bj,bk hgt]
  have et1:(AW G ss t).fam=G[t].1:=by simp[AW,bj,bk hgt]
  have eq1:(AW G ss q).fam=G[q].1:=by simp[AW,bj,bk hgq]
  have eq2:(AW G ss q).place=ss[q].2:=by simp[AW,bj,bk hsq]
  have hlt:(b:Int)<(AW G ss t).size:=by omega
  have hw:=BM (k:=b) (by omega);have qm:=fun n=>AKI n c G[q].1 G[t].1 h2.1 h1.1;have w1:IntKind.i64.wrap (ss[q].2+(a:Int))=ss[q].2+a:=AU (by omega) (by omega);have w2:IntKind.i64.wrap (ss[q].2+(a:Int)-(AW G ss t).place)=ss[q].2+a-(AW G ss t).place:=AU (by omega) (by omega);obtain⟨D,hD⟩:∃D,ss[q].2+(a:Int)-(AW G ss t).place-b=D:=⟨_,rfl⟩;have w3:IntKind.i64.wrap (ss[q].2+(a:Int)-(AW G ss t).place-b)=D:=by rw[AU (by omega) (by omega),hD]
  obtain⟨fr,g1,g2,g3,g4,g5,g6,g7,g8,ih⟩:=APN hG ht hq hs hf hp hx a ha d (b+1) (by omega);refine⟨fr,g1,g2,g3,g4,g5,g6,g7,g8,fun n m hm=>?_⟩;obtain⟨m,rfl⟩:=qNz m (by omega);have ih:=ih n m (by omega);rw[bq (by rw[bc];omega),List.any_cons,cz];have ec:LG c (AW G ss t) (AW G ss q) a b=(decide (ss[q].2+(a:Int)-(AW G ss t).place-b=0)||((decide (ss[q].2+(a:Int)-(AW G ss t).place-b=1)||decide (ss[q].2+(a:Int)-(AW G ss t).place-b = -1))&&JY c G[q].1 G[t].1)):=by unfold LG;rw[eq1,et1,eq2]
  rw[ec,hD];clear hD ec;generalize ((bb (AW G ss t).size.toNat).drop (b+1)).any (LG c (AW G ss t) (AW G ss q) a)=z at ih|-;generalize JY c G[q].1 G[t].1=z4 at *;generalize AW G ss t=X at *;generalize e1:decide (D=0)=z1;generalize e2:decide (D=1)=z2;generalize e3:decide (D = -1)=z3;rw[AB];simp only[AD]at ih qm|-;cases z1 with
  |true=>simp[hlt,hw,hgt,hgq,hsq,w1,w2,w3,e1,C0,AZ,AF,AR,A4,AS,AL,AJ]
  |false=>
   cases z2 with
   |true=>
    cases z4 with
    |true=>simp[hlt,hw,hgt,hgq,hsq,w1,w2,w3,e1,e2,qm,C0,AZ,AF,AR,A4,AS,AL,AJ]
    |false=>cases z<;>(simp at ih;simp[hlt,hw,hgt,hgq,hsq,w1,w2,w3,e1,e2,qm,C0,AZ,AF,AR,A4,AS,AL,AJ,ih])
   |false=>
    cases z3 with
    |true=>
     cases z4 with
     |true=>simp[hlt,hw,hgt,hgq,hsq,w1,w2,w3,e1,e2,e3,qm,C0,AZ,AF,AR,A4,AS,AL,AJ]
     |false=>cases z<;>(simp at ih;simp[hlt,hw,hgt,hgq,hsq,w1,w2,w3,e1,e2,e3,qm,C0,AZ,AF,AR,A4,AS,AL,AJ,ih])
    |false=>cases z<;>(simp at ih;simp[hlt,hw,hgt,hgq,hsq,w1,w2,w3,e1,e2,e3,C0,AZ,AF,AR,A4,AS,AL,AJ,ih])
theorem APO(hG:ss.length<=G.length)(ht:t+1=ss.length)(hq:q<t)(hs:ss.length<=100)(hf:∀g∈G,g.1<c.fams.length/\0<=g.2/\g.2<=4)(hp:0<=(AW G ss q).place/\(AW G ss q).place<=1000)(hx:0<=(AW G ss t).place/\(AW G ss t).place<=1000):∀(d a:Nat),a+d=(AW G ss q).size.toNat->∃fr,BC fr 1=some (true,.list false (G.map AZ))/\BC fr 2=some (true,.list false (ss.map AF))/\BC fr 3=some (true,.ptr 0 3 0 0)/\BC fr 7=some (true,i t)/\BC fr 8=some (true,.ptr 0 8 1 0)/\BC fr 9=some (true,i (AW G ss t).size)/\BC fr 10=some (true,i q) /\
  ∀n m,d<m->BF (AE db ann kn (n+600) 112) T5 (ann 112 (BW T5)) m ⟨2,[(1,true,.list false (G.map AZ)),(2,true,.list false (ss.map AF)),(3,true,.ptr 0 3 0 0),(7,true,i t),(8,true,.ptr 0 8 1 0),(9,true,i (AW G ss t).size),(10,true,i q),(11,true,i a)],⟨[],[(3,0,.box (AD c)),(8,1,.box [i (AW G ss t).row,i (AW G ss t).place])]⟩⟩ =
   if ((bb (AW G ss q).size.toNat).drop a).any (fun a=>(bb (AW G ss t).size.toNat).any (LG c (AW G ss t) (AW G ss q) a))=true then some (.ret,⟨2,[(6,true,.bool false)],⟨[],[]⟩⟩) else some (.exit 2,⟨2,fr,⟨[],[(3,0,.box (AD c)),(8,1,.box [i (AW G ss t).row,i (AW G ss t).place])]⟩⟩)
 |0,a,hd=>by
  have hgq:q<G.length:=by omega
  have h1:=hf G[q] (bw hgq);have hge:(AW G ss q).size=G[q].2:=by simp[AW,bj,bk hgq]
  have hb:(a:Int)=G[q].2:=by omega
  rw[cj (by rw[bc];omega),hb];refine⟨?fr,?g1,?g2,?g3,?g4,?g5,?g6,?g7,fun n m hm=>?g9⟩;case g9=>
   obtain⟨m,rfl⟩:=qNz m (by omega)
   rw[AB]
   simp[AD,hgq,AZ]
   rfl
  all_goals simp
 |d+1,a,hd=>by
  have hgq:q<G.length:=by omega
  have hgt:t<G.length:=by omega
  have h2:=hf G[q] (bw hgq);have h3:=hf G[t] (bw hgt);have eq3:(AW G ss q).size=G[q].2:=by simp[AW,bj,bk hgq]
  have hlt:(a:Int)<G[q].2:=by omega
  have hw:=BM (k:=a) (by omega);obtain⟨f0,b1,b2,b3,b4,b5,b6,b7,b8,qi⟩:=APN c G ss t q hG ht hq hs hf hp hx a (by omega) (AW G ss t).size.toNat 0 (by omega);have hts:(AW G ss t).size=G[t].2:=by simp[AW,bj,bk hgt]
  have qi:=fun n m=>qi n (m+100) (by omega);rw[cx]at qi;obtain⟨fr,g1,g2,g3,g4,g5,g6,g7,ih⟩:=APO hG ht hq hs hf hp hx d (a+1) (by omega);refine⟨fr,g1,g2,g3,g4,g5,g6,g7,fun n m hm=>?_⟩;obtain⟨m,rfl⟩:=qNz m (by omega);have ih:=ih n m (by omega);rw[bq (by rw[bc];omega),List.any_cons,cz];generalize ((bb (AW G ss q).size.toNat).drop (a+1)).any (fun a=>(bb (AW G ss t).size.toNat).any (LG c (AW G ss t) (AW G ss q) a))=z at ih|-;generalize (bb (AW G ss t).size.toNat).any (LG c (AW G ss t) (AW G ss q) a)=z1 at *;generalize AW G ss t=X at *;rw[AB];simp only[AD]at ih qi|-;cases z1<;>cases z<;>(simp at ih qi;simp[hlt,hw,hgq,qi,b1,b2,b3,b4,b5,b6,b7,b8,AZ,ih])
end
theorem A4Z(c:AV)(G:List (Nat×Int))(ss:List (Int×Int))(t:Nat)(hG:ss.length<=G.length)(ht:t+1=ss.length)(hs:ss.length<=100)(hf:∀g∈G,g.1<c.fams.length/\0<=g.2/\g.2<=4)(hp:∀q,q<t->0<=(AW G ss q).place/\(AW G ss q).place<=1000)(hx:0<=(AW G ss t).place/\(AW G ss t).place<=1000):∀(d q:Nat),q+d=t->∃fr,
  ∀n m,d<m->BF (AE db ann kn (n+800) 112) ZS (ann 112 (BW ZS)) m ⟨2,[(1,true,.list false (G.map AZ)),(2,true,.list false (ss.map AF)),(3,true,.ptr 0 3 0 0),(7,true,i t),(8,true,.ptr 0 8 1 0),(9,true,i (AW G ss t).size),(10,true,i q)],⟨[],[(3,0,.box (AD c)),(8,1,.box [i (AW G ss t).row,i (AW G ss t).place])]⟩⟩ =
   if ((bb t).drop q).all (fun q=>S5 c (AW G ss t) (AW G ss q))=true then some (.exit 0,⟨2,fr,⟨[],[(3,0,.box (AD c)),(8,1,.box [i (AW G ss t).row,i (AW G ss t).place])]⟩⟩) else some (.ret,⟨2,[(6,true,.bool false)],⟨[],[]⟩⟩)
 |0,q,hd=>by
  obtain rfl:q=t:=by omega
  rw[cj (by rw[bc];omega)];refine⟨?fr,fun n m hm=>?g9⟩;case g9=>
   obtain⟨m,rfl⟩:=qNz m (by omega)
   rw[AB]
   simp[AD]
   rfl
 |d+1,q,hd=>by
  have hq:q<t:=by omega
  have hgq:q<G.length:=by omega
  have hsq:q<ss.length:=by omega
  have hw:=BM (k:=q) (by omega);have hlt:(q:Int)<(t:Int):=by omega
  have eq2:(AW G ss q).row=ss[q].1:=by simp[AW,bj,bk hsq]
  obtain⟨f0,b1,b2,b3,b4,b5,b6,b7,qi⟩:=APO c G ss t q hG ht hq hs hf (hp q hq) hx (AW G ss q).size.toNat 0 (by omega);have qi:=fun n m=>qi n (m+100) (by
   have h2:=hf G[q] (bw hgq);have:(AW G ss q).size=G[q].2:=by simp[AW,bj,bk hgq]
   omega)
  rw[cx,<-AA2]at qi;obtain⟨fr,ih⟩:=A4Z c G ss t hG ht hs hf hp hx d (q+1) (by omega);refine⟨fr,fun n m hm=>?_⟩;obtain⟨m,rfl⟩:=qNz m (by omega);have ih:=ih n m (by omega);rw[bq (by rw[bc];omega),bh,cz];have ef:S5 c (AW G ss t) (AW G ss q)=(decide (ss[q].1≠(AW G ss t).row)||!RN c (AW G ss t) (AW G ss q)):=by unfold S5;rw[eq2]
  rw[ef];generalize ((bb t).drop (q+1)).all (fun q=>S5 c (AW G ss t) (AW G ss q))=z at ih|-;generalize RN c (AW G ss t) (AW G ss q)=z1 at *;generalize AW G ss t=X at *;rw[AB];simp only[AD]at ih qi|-;by_cases hr:ss[q].1=X.row
  ·have hr':decide (ss[q].1≠X.row)=false:=by simp[hr]
   rw[hr'];cases z1<;>cases z<;>(simp at ih qi;simp[hlt,hw,hgq,hsq,hr,qi,b1,b2,b3,b4,b5,b6,b7,AZ,AF,ih])
  ·have hr':decide (ss[q].1≠X.row)=true:=by simp[hr]
   rw[hr'];cases z<;>(simp at ih;simp[hlt,hw,hgq,hsq,hr,AZ,AF,ih])
def HN(c:AV)(G:List (Nat×Int))(ss:List (Int×Int))(t:Nat):Bool:=C6 c (AW G ss t)&&(bb t).all fun q=>S5 c (AW G ss t) (AW G ss q)
theorem APP(n:Nat)(c:AV)(h1:0<=c.beach.rows/\c.beach.rows<=1000)(h2:0<=c.beach.places/\c.beach.places<=1000)(G:List (Nat×Int))(ss:List (Int×Int))(t:Nat)(hG:ss.length<=G.length)(ht:t+1=ss.length)(hs:ss.length<=100)(hf:∀g∈G,g.1<c.fams.length/\0<=g.2/\g.2<=4)(hp:∀q,q<t->0<=(AW G ss q).place/\(AW G ss q).place<=1000):A2 db kn (AE db ann kn (n+1000)) 74 [.agg (AD c),.list false (G.map AZ),.list false (ss.map AF)]=some (.bool (HN c G ss t)):=by
 rw[AO rfl,AP Tryz.func74 b74 rfl (by simp[AD,AJ,AL,AF,AR,A4,AS,AZ])];have hgt:t<G.length:=by omega
 have hst:t<ss.length:=by omega
 have hf1:=hf G[t] (bw hgt);have e1:(AW G ss t).size=G[t].2:=by simp[AW,bj,bk hgt]
 have e2:(AW G ss t).row=ss[t].1:=by simp[AW,bj,bk hst]
 have e3:(AW G ss t).place=ss[t].2:=by simp[AW,bj,bk hst]
 have hlen:(ss.length:Int)=(t:Int)+1:=by omega
 have w0:IntKind.i64.wrap ((t:Int)+1-1)=(t:Int):=by rw[AU (by omega) (by omega)];omega
 have hlt0:¬((t:Int)+1<=(t:Int)):=by omega
 have w00:IntKind.i64.wrap (t:Int)=(t:Int):=AU (by omega) (by omega);have w1:IntKind.i64.wrap (c.beach.rows-1)=c.beach.rows-1:=AU (by omega) (by omega);have w2:IntKind.i64.wrap (c.beach.places-G[t].2)=c.beach.places-G[t].2:=AU (by omega) (by omega);have qi:=fun n=>kIn n ss[t].1 0 (c.beach.rows-1);unfold HN;have ef:C6 c (AW G ss t)=(F7 ss[t].1 0 (c.beach.rows-1)&&(!decide (ss[t].2<0)&&!decide (c.beach.places-G[t].2<ss[t].2))):=by unfold C6;rw[e1,e2,e3];congr 1;unfold F7;by_cases x1:ss[t].2<0<;>by_cases x2:c.beach.places-G[t].2<ss[t].2<;>simp[x1,x2]<;>omega
 have hp1:Nat.beq 2 1=false:=rfl;by_cases hfit:C6 c (AW G ss t)=true
 ·have hx:0<=(AW G ss t).place/\(AW G ss t).place<=1000:=by simp only[C6,cq,C5]at hfit;omega
  obtain⟨fr,q⟩:=A4Z c G ss t hG ht hs hf hp hx t 0 (by omega);have q:=fun n m=>q n (m+101) (by omega);rw[cx]at q;rw[hfit,cg];rw[ef]at hfit;simp only[cq,cm,decide_eq_false_iff_not]at hfit;obtain⟨f1,f2,f3⟩:=hfit;rw[f1]at qi;rw[e1,e2,e3]at q;generalize (bb t).all (fun q=>S5 c (AW G ss t) (AW G ss q))=z at *;simp only[AD]at q|-;cases z<;>(simp at q;simp[c74,AG,hlen,hgt,hst,hlt0,w0,w00,w1,w2,qi,f2,f3,AZ,AF,A3,BV,B7,BD,EX,EG,C0,GK,hp1,q])
 ·have hfit:C6 c (AW G ss t)=false:=by simpa using hfit
  rw[hfit,ct];rw[ef]at hfit;generalize F7 ss[t].1 0 (c.beach.rows-1)=z1 at *;generalize x2:decide (ss[t].2<0)=z2 at *;generalize x3:decide (c.beach.places-G[t].2<ss[t].2)=z3 at *;simp only[AD];cases z1<;>cases z2<;>cases z3<;>first|(exact absurd hfit (by decide))|simp[c74,AG,hlen,hgt,hst,hlt0,w0,w00,w1,w2,qi,x2,x3,AZ,AF,A3,BV,B7,BD,EX,EG,C0,GK,hp1]
end Go.Proofs.Tryz.Op
namespace Go.Wind
open Go.Proofs.Tryz.Op
def HO(c:AV)(G:List (Nat×Int))(ss:List (Int×Int)):Bool:=decide (ss.length=G.length)&&(decide (DM G<=(EB c:Int))&&(bb ss.length).all (HN c G ss))
theorem S6(c:AV)(f:Nat->Sp):∀n,DJ c [] ((bb n).map f)=(bb n).all fun t=>C6 c (f t)&&((bb t).map f).all (EH c (f t))
 |0=>rfl
 |n+1=>by rw[List.range_succ,bg,M2,S6 c f n,List.all_append];simp[DJ]
theorem gA{G:List (Nat×Int)}(hG:∀g∈G,1<=g.2/\g.2<=4){ss:List (Int×Int)}{t:Nat}(ht:t<G.length):1<=(AW G ss t).size:=by simp only[AW,bj,bk ht,dx];exact(hG _ (bw ht)).1
theorem mQ{c:AV}{G:List (Nat×Int)}(hG:∀g∈G,1<=g.2/\g.2<=4){ss:List (Int×Int)}{t:Nat}(ht:t<G.length):HN c G ss t=(C6 c (AW G ss t)&&((bb t).map (AW G ss)).all (EH c (AW G ss t))):=by
 rw[<- sM (gA hG ht) fun y hy=>by
  obtain⟨q,hq,rfl⟩:=bp.1 hy;exact gA hG (by have:=cn.1 hq; omega)]
 unfold HN ADX S5;rw[List.all_map];rfl
theorem RQ{G:List (Nat×Int)}{ss:List (Int×Int)}(_:ss.length<=G.length):∀{l:List Sp},l.length=ss.length->(∀j (h1:j<l.length),l[j]=AW G ss j)->l=(bb ss.length).map (AW G ss):=fun {l} h1 h2=>by apply List.ext_getElem (by simp[h1]);intro j g1 g2;rw[h2 j g1];simp
theorem mR{c:AV}{G:List (Nat×Int)}(hG:∀g∈G,1<=g.2/\g.2<=4)(ss:List (Int×Int)):HO c G ss=(decide (ss.length=G.length)&&(decide (DM G<=(EB c:Int))&&DJ c [] ((bb ss.length).map (AW G ss)))):=by
 unfold HO;by_cases h:ss.length=G.length
 ·congr 2;rw[S6];have:∀l:List Nat,(∀t∈l,t<G.length)->l.all (HN c G ss)=l.all fun t=>C6 c (AW G ss t)&&((bb t).map (AW G ss)).all (EH c (AW G ss t)):=fun l hl=>by
   induction l with
   |nil=>rfl
   |cons t l ih=>rw[bh,bh,ih fun x hx=>hl x (by simp[hx]),mQ hG (hl t (by simp))]
  exact this _ fun t ht=>by have:=cn.1 ht;omega
 ·simp[h]
theorem IV{c:AV}(hc:B5 c)(out:List Int):∀(k:Nat),k<=c.fams.length->∀g∈B8 c.fams out k,g.1<c.fams.length/\1<=g.2/\g.2<=4
 |0,_,g,hg=>by cases hg
 |k+1,hk,g,hg=>by
  simp only[B8,List.mem_append]at hg;rcases hg with hg|hg
  ·exact IV hc out k (by omega) g hg
  ·split at hg
   ·cases hg
   ·rw[List.mem_singleton]at hg;subst hg;have hk':k<c.fams.length:=by omega
    have e:c.fams.getD k ⟨0,0,false,false⟩=c.fams[k]:=by rw[bj,bk hk'];rfl
    have:=hc.fo _ (bw hk');simp only[e];exact⟨hk',this.1⟩
theorem Q9{c:AV}:∀(k:Nat),k<=c.fams.length->DM (B8 c.fams [] k)=((c.fams.take k).map Q8.size).sum
 |0,_=>rfl
 |k+1,hk=>by
  have hk':k<c.fams.length:=by omega
  have e:c.fams.getD k ⟨0,0,false,false⟩=c.fams[k]:=by rw[bj,bk hk'];rfl
  have ih:=Q9 (c:=c) k (by omega);unfold DM at ih|-;simp only[B8,cw,decide_false,Bool.false_eq_true,if_false,e,bg,dq,ih];rw[bx hk',bg,dq];rfl
theorem S7{c:AV}(hc:B5 c)(ss:List (Int×Int)):HO c (AY c []) ss=D3 c ss:=by
 have hgl:(AY c []).length=c.fams.length:=C3 c;have hgm:∀g∈AY c [],1<=g.2/\g.2<=4:=fun g hg=>(IV hc [] _ (Nat.le_refl _) g hg).2;rw[mR hgm,hgl];unfold D3;by_cases h:ss.length=c.fams.length
 ·rw[decide_eq_true h,cg,cg];have hp:DM (AY c [])=EC (A8 c ss):=by rw[show EC (A8 c ss)=(c.fams.map Q8.size).sum from SZ h];have:=Q9 (c:=c) c.fams.length (Nat.le_refl _);rw[bm]at this;exact this
  have hl:A8 c ss=(bb ss.length).map (AW (AY c []) ss):=by
   refine RQ (by omega) (by rw[show(A8 c ss).length=c.fams.length from D0 h,h]) fun j h1=>?_;have hj:j<c.fams.length:=by rwa [show(A8 c ss).length=c.fams.length from D0 h]at h1
   have e:=KG (k:=0) (fs:=c.fams) (ss:=ss) j hj (by omega) h1;rw[Nat.zero_add]at e;have hg:=fY hj (by rw[hgl];exact hj);unfold AW;rw[bj,bj,bk (by rw[hgl];exact hj),bk (by omega:j<ss.length)];simp only[dx,hg];exact e
  unfold I5;rw[hp,<-hl,Bool.and_comm]
 ·simp[h]
end Go.Wind
namespace Go.Proofs.Tryz.Op
def J0{α:Type}(l:List α):Bool:=!decide ((7:Int)<(l.length:Int))
def ZF(c:AV):Bool:=(YE c.beach&&(J0 c.plan&&(J0 c.chairs&&!decide ((5:Int)<(c.fams.length:Int)))))&&(c.plan.all J0&&c.chairs.all J0)
theorem AA3{α:Type}{l:List α}:J0 l=true↔l.length<=7:=by simp only[J0,cm,decide_eq_false_iff_not];omega
theorem RT{c:AV}(h:ZF c=true):YE c.beach=true/\c.plan.length<=7/\c.chairs.length<=7/\c.fams.length<=5/\(∀l∈c.plan,l.length<=7)/\∀l∈c.chairs,l.length<=7:=by simp only[ZF,cq,AA3,List.all_eq_true,cm,decide_eq_false_iff_not]at h;exact⟨h.1.1,h.1.2.1,h.1.2.2.1,by omega,h.2.1,h.2.2⟩
theorem A40(c:AV)(hl:c.plan.length<=100):∀(d k:Nat),k+d=c.plan.length->∃fr,BC fr 1=some (true,.ptr 0 1 0 0) /\
  ∀n m,d<m->BF (AE db ann kn (n+100) 55) ZT (ann 55 (BW ZT)) m ⟨1,[(1,true,.ptr 0 1 0 0),(3,true,i k)],⟨[],[(1,0,.box (AD c))]⟩⟩ =
   if (c.plan.drop k).all J0=true then some (.exit 0,⟨1,fr,⟨[],[(1,0,.box (AD c))]⟩⟩) else some (.ret,⟨1,[(2,true,.bool false)],⟨[],[]⟩⟩)
 |0,k,hk=>by
  have:k=c.plan.length:=by omega
  subst this;rw[cp];refine⟨?fr,?g1,fun n m hm=>?g2⟩;case g2=>
   obtain⟨m,rfl⟩:=qNz m (by omega)
   rw[AB]
   simp[AD]
   rfl
  case g1=>simp
 |d+1,k,hk=>by
  have hk':k<c.plan.length:=by omega
  have hw:=BM (k:=k) (by omega);obtain⟨fr,e1,ih⟩:=A40 c hl d (k+1) (by omega);rw[bq hk',bh];refine⟨fr,e1,fun n m hm=>?_⟩;obtain⟨m,rfl⟩:=qNz m (by omega);have ih:=ih n m (by omega);have es:J0 c.plan[k]=!decide ((7:Int)<(c.plan[k].length:Int)):=rfl;rw[es];generalize e1:decide ((7:Int)<(c.plan[k].length:Int))=z1;generalize (c.plan.drop (k+1)).all J0=z at ih|-;rw[AB];simp only[AD]at ih|-;cases z1<;>cases z<;>(simp at ih;simp[AL,hk',hw,e1,ih])
theorem A41(c:AV)(hl:c.chairs.length<=100):∀(d k:Nat),k+d=c.chairs.length->∃fr,BC fr 1=some (true,.ptr 0 1 0 0) /\
  ∀n m,d<m->BF (AE db ann kn (n+100) 55) ZU (ann 55 (BW ZU)) m ⟨1,[(1,true,.ptr 0 1 0 0),(4,true,i k)],⟨[],[(1,0,.box (AD c))]⟩⟩ =
   if (c.chairs.drop k).all J0=true then some (.exit 2,⟨1,fr,⟨[],[(1,0,.box (AD c))]⟩⟩) else some (.ret,⟨1,[(2,true,.bool false)],⟨[],[]⟩⟩)
 |0,k,hk=>by
  have:k=c.chairs.length:=by omega
  subst this;rw[cp];refine⟨?fr,?g1,fun n m hm=>?g2⟩;case g2=>
   obtain⟨m,rfl⟩:=qNz m (by omega)
   rw[AB]
   simp[AD]
   rfl
  case g1=>simp
 |d+1,k,hk=>by
  have hk':k<c.chairs.length:=by omega
  have hw:=BM (k:=k) (by omega);obtain⟨fr,e1,ih⟩:=A41 c hl d (k+1) (by omega);rw[bq hk',bh];refine⟨fr,e1,fun n m hm=>?_⟩;obtain⟨m,rfl⟩:=qNz m (by omega);have ih:=ih n m (by omega);have es:J0 c.chairs[k]=!decide ((7:Int)<(c.chairs[k].length:Int)):=rfl;rw[es];generalize e1:decide ((7:Int)<(c.chairs[k].length:Int))=z1;generalize (c.chairs.drop (k+1)).all J0=z at ih|-;rw[AB];simp only[AD]at ih|-;cases z1<;>cases z<;>(simp at ih;simp[AR,hk',hw,e1,ih])
theorem ATB(n:Nat)(c:AV):A2 db kn (AE db ann kn (n+1400)) 18 [.agg (AD c)]=some (.bool (ZF c)):=by
 rw[AO rfl,AP Tryz.func18 b18 rfl (by simp[AD,AJ,AL,AF,AR,A4,AS])];have qT:=fun n=>BC0 n c.beach;unfold ZF;have es:J0 c.plan=!decide ((7:Int)<(c.plan.length:Int)):=rfl;have et:J0 c.chairs=!decide ((7:Int)<(c.chairs.length:Int)):=rfl;rw[es,et];generalize e1:decide ((7:Int)<(c.plan.length:Int))=z1;generalize e2:decide ((7:Int)<(c.chairs.length:Int))=z2;generalize e3:decide ((5:Int)<(c.fams.length:Int))=z3;generalize YE c.beach=z4 at *;simp only[AC]at qT;by_cases h:z4=true/\z1=false/\z2=false/\z3=false
 ·obtain⟨rfl,rfl,rfl,rfl⟩:=h;have h1:=of_decide_eq_false e1;have h2:=of_decide_eq_false e2;obtain⟨f1,g1,q1⟩:=A40 c (by omega) c.plan.length 0 (by omega);obtain⟨f2,g2,q2⟩:=A41 c (by omega) c.chairs.length 0 (by omega);have q1:=fun n m=>q1 n (m+100) (by omega);have q2:=fun n m=>q2 n (m+100) (by omega);rw[cx]at q1 q2;generalize c.plan.all J0=y1 at *;generalize c.chairs.all J0=y2 at *;simp only[AD]at q1 q2|-;cases y1<;>cases y2<;>(simp at q1 q2;simp[c18,AG,qT,e1,e2,e3,q1,q2,g1,g2,AR,A4,AS,AF,AL,AJ])
 ·simp only[AD]at|-;cases z4<;>cases z1<;>cases z2<;>cases z3<;>first|exact absurd ⟨rfl,rfl,rfl,rfl⟩ h|simp[c18,AG,qT,e1,e2,e3,AR,A4,AS,AF,AL,AJ]
theorem A42{k:Nat}(hk:k<=100000)(q g n:Nat):B9 db 22 k [[.vec 0 q g n]]=true:=by rw[CB (by simp) (by simp)];simp[maxLen];omega
theorem AKJ(l k:Nat)(o:Option (Nat×A0))(ls:List (List Int)):(ls.map AL).map (dz (BK l k o 3))=ls.map AL:=by rw[ck];exact bf fun x _=>rfl
theorem A43(ls:List (List Int)):(ls.map AL).map (dz iO)=ls.map AL:=by rw[ck];exact bf fun x _=>rfl
theorem RU(k γ:Nat)(h:List V)(t:List (List V)):pv k γ (h::t)=.vec 0 k γ (t.length+1):=rfl
theorem jM:sl []=.nil:=rfl
theorem sS(e:List V)(es:List (List V)):sl (e::es)=.list false (e::es):=rfl
theorem P6(l k:Nat)(o:Option (Nat×A0))(f:Nat)(es:List (List V)):BK l k o f (sl es)=sl es:=by cases f<;>cases es<;>rfl
theorem ATC(ls:List (List Int))(h1:ls.length<=100)(h2:∀l∈ls,l.length<=100):∀(d k c γ:Nat),k+d=ls.length->∃fr c' γ',fr=[(8,true,V.bool false),(7,true,i ls.length),(6,true,GW ls),(5,true,i ls.length),(0,true,GW ls),(3,true,pv 18 γ' (ls.map AL)),(4,true,i ls.length)]/\∀n m,d<m->BF (AE db ann kn (n+200) 20) ZV (ann 20 (BW ZV)) m ⟨c,[(0,true,GW ls),(3,true,pv 18 γ ((ls.take k).map AL)),(4,true,i k)],⟨[],pl 18 γ 22 ((ls.take k).map AL)⟩⟩ =
  some (.exit 0,⟨c',fr,⟨[],pl 18 γ' 22 (ls.map AL)⟩⟩)
 |0,k,c,γ,hk=>by
  have:k=ls.length:=by omega
  subst this;rw[bm];refine⟨_,c,γ,rfl,fun n m hm=>?_⟩;obtain⟨m,rfl⟩:=qNz m (by omega);rw[AB];simp
 |d+1,k,c,γ,hk=>by
  have hk':k<ls.length:=by omega
  have hw:=BM (k:=k) (by omega);have h3:=h2 _ (bw hk');have hst:(ls.take (k+1)).map AL=(ls.take k).map AL++[AL ls[k]]:=by rw[bx hk',bg];rfl
  have hRl:((ls.take k).map AL).length=k:=by rw[cd,bn];omega
  have hto:=fun o=>AKJ 0 16 o (ls.take k);have hR1:∀e∈(ls.take k).map AL,e.length=1:=fun e he=>by obtain⟨l,_,rfl⟩:=bp.1 he;rfl
  have hwk:=A43 (ls.take k);have ha:=fun q g n=>A42 (k:=((ls.take k).map AL).length) (by omega) q g n;have hai:=BCW (k:=0) (l:=ls[k]) (by omega);generalize hLk:ls[k]=L at *;cases L with
  |nil=>
   obtain⟨fr,c',γ',e1,ih⟩:=ATC ls h1 h2 d (k+1) (c+1+1) (c+1) (by omega)
   refine⟨fr,c',γ',e1,fun n m hm=>?_⟩
   obtain⟨m,rfl⟩:=qNz m (by omega)
   have ih:=ih n m (by omega)
   rw[hst]at ih
   generalize ls.map AL=fin at *
   generalize (ls.take k).map AL=R at *
   rw[AB]
   simp[AL]at hai
   cases R with
   |nil=>simp[AL,li,RU]at ih ha;simp[show c+1+1=c+2 from rfl,hk',hw,hLk,AL,AJ,ha,hai,ih,A3,C0,GK,D9,BV,B7,BD,EX,EG]
   |cons r R=>
    have hR2:=hR1 r (by simp)
    have hR3:=eq_true (fun e he=>hR1 e (bz r he):∀e∈R,e.length=1)
    simp[AL,li,RU]at ih ha hto hwk
    simp[show c+1+1=c+2 from rfl,hk',hw,hLk,AL,AJ,ha,hai,ih,hto,hwk,hR2,hR3,P6,RU,A3,C0,GK,D9,BV,B7,BD,EX,EG]
  |cons x L=>
   obtain⟨fr,c',γ',e1,ih⟩:=ATC ls h1 h2 d (k+1) (c+1+1) (c+1) (by omega)
   refine⟨fr,c',γ',e1,fun n m hm=>?_⟩
   obtain⟨m,rfl⟩:=qNz m (by omega)
   have ih:=ih n m (by omega)
   rw[hst]at ih
   generalize ls.map AL=fin at *
   generalize (ls.take k).map AL=R at *
   rw[AB]
   simp[AL,AJ]at hai
   cases R with
   |nil=>simp[AL,AJ,li,RU]at ih ha;simp[show c+1+1=c+2 from rfl,hk',hw,hLk,AL,AJ,ha,hai,ih,A3,C0,GK,D9,BV,B7,BD,EX,EG]
   |cons r R=>
    have hR2:=hR1 r (by simp)
    have hR3:=eq_true (fun e he=>hR1 e (bz r he):∀e∈R,e.length=1)
    simp[AL,AJ,li,RU]at ih ha hto hwk
    simp[show c+1+1=c+2 from rfl,hk',hw,hLk,AL,AJ,ha,hai,ih,hto,hwk,hR2,hR3,P6,RU,A3,C0,GK,D9,BV,B7,BD,EX,EG]
theorem AKK(n:Nat)(ls:List (List Int))(h1:ls.length<=100)(h2:∀l∈ls,l.length<=100):A2 db kn (AE db ann kn (n+400)) 69 [GW ls]=some (sl (ls.map AL)):=by rw[AO rfl,AP Tryz.func69 b69 rfl (by simp[AJ,AL])];obtain⟨fr,c',γ',e1,q⟩:=ATC ls h1 h2 ls.length 0 0 0 (by omega);have q:=fun n m=>q n (m+200) (by omega);simp at q e1;simp[c69,AG,q,e1,AL,AJ]
theorem AKL(o:Option (Nat×A0))(ss:List (Int×Int)):(ss.map AF).map (dz (BK 0 16 o 3))=ss.map AF:=by rw[ck];exact bf fun x _=>rfl
theorem A44(ss:List (Int×Int)):(ss.map AF).map (dz iO)=ss.map AF:=by rw[ck];exact bf fun x _=>rfl
theorem APQ(l k a b c n:Nat):BK l k none 3 (.vec a b c n)=.vec a b c n:=rfl
theorem wkI(n:Int):iO (i n)=i n:=rfl
theorem A45(ss:List (Int×Int))(h1:ss.length<=100):∀(d k c γ:Nat),k+d=ss.length->∃fr c' γ',fr=[(8,true,V.bool false),(7,true,i ss.length),(6,true,.list false (ss.map AF)),(5,true,i ss.length),(0,true,.list false (ss.map AF)),(3,true,pv 18 γ' (ss.map AF)),(4,true,i ss.length)]/\∀n m,d<m->BF (AE db ann kn (n+200) 20) ZW (ann 20 (BW ZW)) m ⟨c,[(0,true,.list false (ss.map AF)),(3,true,pv 18 γ ((ss.take k).map AF)),(4,true,i k)],⟨[],pl 18 γ 86 ((ss.take k).map AF)⟩⟩ =
  some (.exit 0,⟨c',fr,⟨[],pl 18 γ' 86 (ss.map AF)⟩⟩)
 |0,k,c,γ,hk=>by
  have:k=ss.length:=by omega
  subst this;rw[bm];refine⟨_,c,γ,rfl,fun n m hm=>?_⟩;obtain⟨m,rfl⟩:=qNz m (by omega);rw[AB];simp
 |d+1,k,c,γ,hk=>by
  have hk':k<ss.length:=by omega
  have hw:=BM (k:=k) (by omega);have hst:(ss.take (k+1)).map AF=(ss.take k).map AF++[AF ss[k]]:=by rw[bx hk',bg];rfl
  have hRl:((ss.take k).map AF).length=k:=by rw[cd,bn];omega
  have hR1:∀e∈(ss.take k).map AF,e.length=2:=fun e he=>by obtain⟨l,_,rfl⟩:=bp.1 he;rfl
  have hto:=AKL none (ss.take k);have hwk:=A44 (ss.take k);have happ:=BDC (k:=((ss.take k).map AF).length) (x:=ss[k]) (by omega);have q:=fun n=>AJP n ss[k];obtain⟨fr,c',γ',e1,ih⟩:=A45 ss h1 d (k+1) (c+1) c (by omega);refine⟨fr,c',γ',e1,fun n m hm=>?_⟩;obtain⟨m,rfl⟩:=qNz m (by omega);have ih:=ih n m (by omega);rw[hst]at ih;generalize (ss.take k).map AF=R at *;rw[AB];simp[AF]at q;cases R with
  |nil=>simp[AF,RU]at ih happ;simp[-ck,hk',hw,AF,RU,q,happ,ih,APQ,wkI,A3,C0,GK,D9,BV,B7,BD,EX,EG]
  |cons r R=>
   have hR2:=hR1 r (by simp)
   have hR3:=eq_true (fun e he=>hR1 e (bz r he):∀e∈R,e.length=2)
   simp[AF,RU,-ck]at ih happ hto hwk
   simp[-ck,hk',hw,AF,RU,q,happ,ih,hR2,hR3,APQ,wkI,hto,hwk,A3,C0,GK,D9,BV,B7,BD,EX,EG]
theorem AKM(n:Nat)(ss:List (Int×Int))(h1:ss.length<=100):A2 db kn (AE db ann kn (n+400)) 22 [.list false (ss.map AF)]=some (sl (ss.map AF)):=by
 rw[AO rfl,AP Tryz.func22 b22 rfl (by simp[AF])];obtain⟨fr,c',γ',e1,q⟩:=A45 ss h1 ss.length 0 0 0 (by omega);have q:=fun n m=>q n (m+200) (by omega);have hcl:∀e∈ss.map AF,∀v∈e,AH 8 v=true:=fun e he v hv=>by obtain⟨l,_,rfl⟩:=bp.1 he;simp only[AF,dj,cw,or_false]at hv;rcases hv with rfl|rfl<;>rfl
 generalize ss.map AF=R at *;simp at q e1;simp[c22,AG,q,e1];exact hcl
theorem A46{k:Nat}{g:Nat×Int}(h:k<=1000):B9 db 135 k [[i (g.1:Int),i g.2]]=true:=by rw[CB (by simp) (by simp)];simp[maxLen];omega
theorem AA4{x N j:Nat}:((j:Int)∈G9 x N)↔j<N/\x.testBit j=true:=by
 unfold G9;rw[bp];constructor
 ·rintro ⟨i,hi,e⟩;rw[List.mem_filter,cn]at hi;have:i=j:=by omega
  subst this;exact hi
 ·intro h;exact⟨j,by rw[List.mem_filter,cn];exact h,rfl⟩
theorem AD9(x j:Nat):decide ((((x / 2 ^ j:Nat):Int).tmod 2)=0)=!x.testBit j:=by rw[<-AMQ];have h:=Int.tmod_eq_emod_of_nonneg (a:=((x / 2 ^ j:Nat):Int)) (b:=2) (Int.natCast_nonneg _);rw[h];rcases Int.emod_two_eq ((x / 2 ^ j:Nat):Int)with h|h<;>rw[h]<;>rfl
def HP(c:AV)(x:Nat):List (Nat×Int):=AY c (G9 x c.fams.length)
theorem ATD(c:AV)(hl:c.fams.length<=30)(x:Nat):∀(d k g γ:Nat),k+d=c.fams.length->0<g->∃g' γ' fr,BC fr 5=some (true,pv 30 γ' ((HP c x).map AZ)) /\
  ∀n m,d<m->BF (AE db ann kn (n+100) 32) ZX (ann 32 (BW ZX)) m ⟨g,[(1,true,i x),(2,true,.ptr 0 2 0 0),(5,true,pv 30 γ ((B8 c.fams (G9 x c.fams.length) k).map AZ)),(6,true,i k)],⟨[],(2,0,.box (AD c))::pl 30 γ 135 ((B8 c.fams (G9 x c.fams.length) k).map AZ)⟩⟩ =
   some (.exit 0,⟨g',fr,⟨[],(2,0,.box (AD c))::pl 30 γ' 135 ((HP c x).map AZ)⟩⟩)
 |0,k,g,γ,hk,hg=>by
  obtain rfl:k=c.fams.length:=by omega
  have e:B8 c.fams (G9 x c.fams.length) c.fams.length=HP c x:=rfl;rw[e];generalize HP c x=R;refine⟨g,γ,?fr,?g1,fun n m hm=>?g2⟩;case g2=>
   obtain⟨m,rfl⟩:=qNz m (by omega)
   rw[AB]
   simp[AD]
   rfl
  case g1=>simp
 |d+1,k,g,γ,hk,hg=>by
  have hk':k<c.fams.length:=by omega
  have hw:=BM (k:=k) (by omega);have hgl:=OS c.fams (G9 x c.fams.length) k;have hf:c.fams.getD k ⟨0,0,false,false⟩=c.fams[k]:=by rw[bj,bk hk'];rfl
  have hst:B8 c.fams (G9 x c.fams.length) (k+1)=B8 c.fams (G9 x c.fams.length) k++(if decide ((k:Int)∈G9 x c.fams.length)=true then[] else[(k,c.fams[k].size)]):=by rw[<-hf];rfl
  have hin:decide ((k:Int)∈G9 x c.fams.length)=x.testBit k:=by rw[Bool.eq_iff_iff,decide_eq_true_eq,AA4];exact⟨fun h=>h.2,fun h=>⟨hk',h⟩⟩
  have happ:=A46 (k:=(B8 c.fams (G9 x c.fams.length) k).length) (g:=(k,c.fams[k].size)) (by omega);have e1:=AYY (x:=x) (j:=k) (by omega);have e2:=ADF (p:=k) (by omega);have hb:=AD9 x k;rw[hin]at hst;have hp1:Nat.beq 2 1=false:=rfl;generalize ((x / 2 ^ k:Nat):Int)=X at e1 hb;cases hbit:x.testBit k with
  |true=>
   rw[hbit]at hb hst
   rw[if_pos rfl,List.append_nil]at hst
   obtain⟨g',γ',fr,q1,ih⟩:=ATD c hl x d (k+1) g γ (by omega) hg
   refine⟨g',γ',fr,q1,fun n m hm=>?_⟩
   obtain⟨m,rfl⟩:=qNz m (by omega)
   have ih:=ih n m (by omega)
   rw[hst]at ih
   generalize B8 c.fams (G9 x c.fams.length) k=R at *
   rw[AB]
   simp only[AD]at ih|-
   simp at hb
   cases R<;>(simp at ih;simp[hk',hw,wC,e1,e2,-VP,hb,ih])
  |false=>
   rw[hbit]at hb hst
   rw[if_neg (by decide)]at hst
   obtain⟨g',γ',fr,q1,ih⟩:=ATD c hl x d (k+1) (g+1) g (by omega) (by omega)
   refine⟨g',γ',fr,q1,fun n m hm=>?_⟩
   obtain⟨m,rfl⟩:=qNz m (by omega)
   have ih:=ih n m (by omega)
   rw[hst]at ih
   generalize B8 c.fams (G9 x c.fams.length) k=R at *
   rw[AB]
   simp only[AD]at ih|-
   simp at hb
   cases R with
   |nil=>simp[AZ,RU]at ih happ;simp[hk',hw,wC,e1,e2,-VP,hb,happ,AS,AZ,RU,hp1,ih,A3,C0,GK,D9,BV,B7,BD,EX,EG]
   |cons r R=>simp[AZ,RU]at ih happ;simp[hk',hw,wC,e1,e2,-VP,hb,happ,AS,AZ,RU,hp1,ih,A3,C0,GK,D9,BV,B7,BD,EX,EG]
theorem mS(n:Nat)(c:AV)(hl:c.fams.length<=30)(x:Nat):A2 db kn (AE db ann kn (n+200)) 26 [.agg (AD c),i x]=some (sl ((HP c x).map AZ)):=by
 rw[AO rfl,AP Tryz.func26 b26 rfl (by simp[AD,AJ,AL,AF,AR,A4,AS])];obtain⟨g',γ',fr,e1,q⟩:=ATD c hl x c.fams.length 0 1 0 (by omega) (by omega);have q:=fun n m=>q n (m+100) (by omega);have e0:B8 c.fams (G9 x c.fams.length) 0=[]:=rfl;rw[e0]at q;have hcl:∀e∈(HP c x).map AZ,∀v∈e,AH 8 v=true:=fun e he v hv=>by obtain⟨l,_,rfl⟩:=bp.1 he;simp only[AZ,dj,cw,or_false]at hv;rcases hv with rfl|rfl<;>rfl
 generalize (HP c x).map AZ=R at *;simp only[AD]at q|-;simp at q e1;simp[c26,AG,q,e1];exact hcl
theorem V4{G:List (Nat×Int)}{ss:List (Int×Int)}{j q:Nat}(h:q<j):AW G (ss.take j) q=AW G ss q:=by unfold AW;rw[bj,bj,bj,List.getElem?_take_of_lt h]
theorem sT{c:AV}{G:List (Nat×Int)}{ss:List (Int×Int)}{t:Nat}:HN c G (ss.take (t+1)) t=HN c G ss t:=by
 unfold HN;rw[V4 (by omega)];congr 1;have:∀l:List Nat,(∀q∈l,q<t)->l.all (fun q=>S5 c (AW G ss t) (AW G (ss.take (t+1)) q))=l.all fun q=>S5 c (AW G ss t) (AW G ss q):=fun l hl=>by
  induction l with
  |nil=>rfl
  |cons x l ih=>rw[bh,bh,ih fun y hy=>hl y (by simp[hy]),V4 (by have:=hl x (by simp);omega)]
 exact this _ fun q hq=>cn.1 hq
theorem mT{s:St}(l:List (Int×Int)){j:Nat}(hj:j<=l.length):CH db s 24 (.list false (l.map AF)) none (some (i j)) none=some (.list false ((l.map AF).take j)):=by have:=dV (P:=db) (s:=s) (T:=24) (e:=59) (es:=l.map AF) (h:=(j:Int)) (b:=false) (by kernel_rfl) (by simp) (by omega) (by rw[cd];omega);simpa using this
theorem ZG{P:Program}{s:St}{r:Operand->Option V}(T:TypeId)(x h:Operand):JT P (mG (.slice T x none (some h) none)) s r=(r x).bind fun a=>(r h).bind fun c=>CH P s T a none (some c) none:=by show((r x).bind fun a=>(some none).bind fun l=>((r h).map some).bind fun h=>(some none).bind fun m=>CH P s T a l h m)=_;cases r x<;>cases r h<;>rfl
theorem A47(c:AV)(h1:0<=c.beach.rows/\c.beach.rows<=1000)(h2:0<=c.beach.places/\c.beach.places<=1000)(G:List (Nat×Int))(ss:List (Int×Int))(hG:ss.length=G.length)(hs:ss.length<=100)(hf:∀g∈G,g.1<c.fams.length/\0<=g.2/\g.2<=4):∀(d k:Nat),k+d=ss.length->(∀q,q<k->HN c G ss q=true)->∃fr,
  ∀n m,d<m->BF (AE db ann kn (n+1200) 34) ZY (ann 34 (BW ZY)) m ⟨1,[(1,true,.list false (G.map AZ)),(2,true,.list false (ss.map AF)),(3,true,.ptr 0 3 0 0),(7,true,i k)],⟨[],[(3,0,.box (AD c))]⟩⟩ =
   if ((bb ss.length).drop k).all (HN c G ss)=true then some (.exit 0,⟨1,fr,⟨[],[(3,0,.box (AD c))]⟩⟩) else some (.ret,⟨1,[(6,true,.bool false)],⟨[],[]⟩⟩)
 |0,k,hd,_=>by
  obtain rfl:k=ss.length:=by omega
  rw[cj (by rw[bc];omega)];refine⟨?fr,fun n m hm=>?g9⟩;case g9=>
   obtain⟨m,rfl⟩:=qNz m (by omega)
   rw[AB]
   simp[AD]
   rfl
 |d+1,k,hd,hok=>by
  have hk:k<ss.length:=by omega
  have hw:=BM (k:=k) (by omega);have qsl:=fun s=>mT (s:=s) ss (show k+1<=ss.length by omega);have hlt:(ss.take (k+1)).length=k+1:=by rw[bn];omega
  have hp:∀q,q<k->0<=(AW G (ss.take (k+1)) q).place/\(AW G (ss.take (k+1)) q).place<=1000:=fun q hq=>by
   rw[V4 (by omega)];have h:=hok q hq;simp only[HN,C6,cq,C5]at h;have hg:q<G.length:=by omega
   have hsz:0<=(AW G ss q).size:=by simp only[AW,bj,bk hg,dx];exact(hf _ (bw hg)).2.1
   omega
  have qS:=fun n=>APP n c h1 h2 G (ss.take (k+1)) k (by rw[hlt];omega) (by rw[hlt]) (by rw[hlt];omega) hf hp;rw[sT]at qS;rw[bq (by rw[bc];omega),bh,cz];cases hz:HN c G ss k with
  |false=>
   rw[hz]at qS
   refine⟨[],fun n m hm=>?_⟩
   obtain⟨m,rfl⟩:=qNz m (by omega)
   rw[AB]
   simp only[AD]at qS|-
   simp[<-dk]at qsl
   simp[<-dk,hk,hw,qsl,qS,AF,AZ,AR,A4,AS,ZG,ZD,FS]
  |true=>
   rw[hz]at qS
   obtain⟨fr,ih⟩:=A47 c h1 h2 G ss hG hs hf d (k+1) (by omega) (fun q hq=>by
    by_cases e:q=k
    ·rw[e];exact hz
    ·exact hok q (by omega))
   refine⟨fr,fun n m hm=>?_⟩
   obtain⟨m,rfl⟩:=qNz m (by omega)
   have ih:=ih n m (by omega)
   generalize ((bb ss.length).drop (k+1)).all (HN c G ss)=z at ih|-
   rw[AB]
   simp only[AD]at qS ih|-
   simp[<-dk]at qsl
   cases z<;>(simp at ih;simp[<-dk,hk,hw,qsl,qS,AF,AZ,AR,A4,AS,ZG,ZD,FS,ih])
theorem ZH(n:Nat)(c:AV)(h1:0<=c.beach.rows/\c.beach.rows<=1000)(h2:0<=c.beach.places/\c.beach.places<=1000)(hch:c.chairs.length<=100)(hcr:∀l∈c.chairs,l.length<=100)(G:List (Nat×Int))(hG:G.length<=100)(ss:List (Int×Int))(hf:∀g∈G,g.1<c.fams.length/\0<=g.2/\g.2<=4):A2 db kn (AE db ann kn (n+1600)) 25 [.agg (AD c),.list false (G.map AZ),.list false (ss.map AF)]=some (.bool (HO c G ss)):=by
 rw[AO rfl,AP Tryz.func25 b25 rfl (by simp[AD,AJ,AL,AF,AR,A4,AS,AZ])];have qP:=fun n=>AKH n G hG (fun g hg=>(hf g hg).2);have qC:=fun n=>AD8 n c hch hcr;unfold HO;by_cases hl:ss.length=G.length
 ·have hl':(ss.length:Int)=(G.length:Int):=by omega
  obtain⟨fr,q⟩:=A47 c h1 h2 G ss hl (by omega) hf ss.length 0 (by omega) (fun q hq=>by omega);have q:=fun n m=>q n (m+101) (by omega);rw[cx]at q;rw[decide_eq_true hl,cg];generalize (bb ss.length).all (HN c G ss)=z at *;generalize DM G=PG at *;generalize EB c=CN at *;by_cases hp:PG<=(CN:Int)
  ·have hp':¬(CN:Int)<PG:=by omega
   rw[decide_eq_true hp,cg];simp only[AD]at q qP qC|-;cases z<;>(simp at q;simp[c25,AG,hl',qP,qC,hp',q,C0,AF,AZ,AR,A4,AS])
  ·have hp':(CN:Int)<PG:=by omega
   rw[decide_eq_false hp,ct];simp only[AD]at q qP qC|-;simp[c25,AG,hl',qP,qC,hp',C0,AF,AZ,AR,A4,AS]
 ·have hl':¬(ss.length:Int)=(G.length:Int):=by omega
  rw[decide_eq_false hl,ct];simp only[AD]at qP qC|-;simp[c25,AG,hl',C0,AF,AZ,AR,A4,AS]
theorem APR(c:AV)(hl:c.chairs.length<=100):∀(d k:Nat),k+d=c.chairs.length->∃fr,BC fr 1=some (true,.ptr 0 1 0 0) /\
  ∀n m,d<m->BF (AE db ann kn (n+100) 76) UB (ann 76 (BW UB)) m ⟨1,[(1,true,.ptr 0 1 0 0),(4,true,i k)],⟨[],[(1,0,.box (AD c))]⟩⟩ =
   if (c.chairs.drop k).all (fun l=>decide ((l.length:Int)=c.beach.places))=true then some (.exit 0,⟨1,fr,⟨[],[(1,0,.box (AD c))]⟩⟩) else some (.ret,⟨1,[(2,true,i 1)],⟨[],[]⟩⟩)
 |0,k,hk=>by
  have:k=c.chairs.length:=by omega
  subst this;rw[cp];refine⟨?fr,?g1,fun n m hm=>?g2⟩;case g2=>
   obtain⟨m,rfl⟩:=qNz m (by omega)
   rw[AB]
   simp[AD]
   rfl
  case g1=>simp
 |d+1,k,hk=>by
  have hk':k<c.chairs.length:=by omega
  have hw:=BM (k:=k) (by omega);obtain⟨fr,e1,ih⟩:=APR c hl d (k+1) (by omega);rw[bq hk',bh];refine⟨fr,e1,fun n m hm=>?_⟩;obtain⟨m,rfl⟩:=qNz m (by omega);have ih:=ih n m (by omega);generalize e1:decide ((c.chairs[k].length:Int)=c.beach.places)=z1;generalize (c.chairs.drop (k+1)).all (fun l=>decide ((l.length:Int)=c.beach.places))=z at ih|-;rw[AB];simp only[AD]at ih|-;cases z1<;>cases z<;>(simp at ih;simp[AR,hk',hw,e1,ih])
theorem APS(c:AV)(hl:c.fams.length<=100):∀(d k:Nat),k+d=c.fams.length->∃fr,
  ∀n m,d<m->BF (AE db ann kn (n+200) 76) UC (ann 76 (BW UC)) m ⟨1,[(1,true,.ptr 0 1 0 0),(5,true,i k)],⟨[],[(1,0,.box (AD c))]⟩⟩ =
   if (c.fams.drop k).all LD=true then some (.exit 2,⟨1,fr,⟨[],[(1,0,.box (AD c))]⟩⟩) else some (.ret,⟨1,[(2,true,i 1)],⟨[],[]⟩⟩)
 |0,k,hk=>by
  have:k=c.fams.length:=by omega
  subst this;rw[cp];refine⟨?fr,fun n m hm=>?g2⟩;case g2=>
   obtain⟨m,rfl⟩:=qNz m (by omega)
   rw[AB]
   simp[AD]
   rfl
 |d+1,k,hk=>by
  have hk':k<c.fams.length:=by omega
  have hw:=BM (k:=k) (by omega);obtain⟨fr,ih⟩:=APS c hl d (k+1) (by omega);rw[bq hk',bh];refine⟨fr,fun n m hm=>?_⟩;obtain⟨m,rfl⟩:=qNz m (by omega);have ih:=ih n m (by omega);have ef:LD c.fams[k]=(F7 c.fams[k].size 1 4&&F7 c.fams[k].good 0 5):=rfl;have q1:=fun n=>kIn n c.fams[k].size 1 4;have q2:=fun n=>kIn n c.fams[k].good 0 5;rw[ef];generalize F7 c.fams[k].size 1 4=z1 at *;generalize F7 c.fams[k].good 0 5=z2 at *;generalize (c.fams.drop (k+1)).all LD=z at ih|-;rw[AB];simp only[AD]at ih|-;cases z1<;>cases z2<;>cases z<;>(simp at ih;simp[AS,hk',hw,q1,q2,ih])
theorem AKN(n:Nat)(c:AV)(hw:∀l∈c.beach.winds,l.length<=100)(hp:c.plan.length<=100)(hch:c.chairs.length<=100):A2 db kn (AE db ann kn (n+2400)) 70 [.agg (AD c)]=some (i (FG c)):=by
 rw[AO rfl,AP Tryz.func70 b70 rfl (by simp[AD,AJ,AL,AF,AR,A4,AS])];have qf:=fun n=>AJS n c.beach hw;unfold FG;by_cases a1:3<c.fams.length
 ·have e1:(3:Int)<(c.fams.length:Int):=by omega
  rw[if_pos a1];simp only[AD];simp[c70,AG,e1]
 rw[if_neg a1];have e1:¬(3:Int)<(c.fams.length:Int):=by omega
 by_cases a2:D4 c.beach≠0
 ·rw[if_pos a2];simp only[AD,AC]at qf|-;simp[c70,AG,e1,qf,a2,AL,AJ,AF]
 rw[if_neg a2];have a2:D4 c.beach=0:=by simpa using a2
 have hb:=UL a2;have qp:=fun n=>AJJ n c.beach hb c.plan hp;have qt:=fun n=>gC n c.beach hb;rw[a2]at qf;by_cases a3:EV c.beach c.plan=false
 ·rw[if_pos a3];rw[a3]at qp;simp only[AD,AC]at qf qp|-;simp[c70,AG,e1,qf,qp,AL,AJ,AF]
 rw[if_neg a3];have a3:EV c.beach c.plan=true:=by simpa using a3
 rw[a3]at qp;by_cases a4:BU c.beach=[]
 ·rw[if_pos a4];rw[a4]at qt;simp only[AD,AC]at qf qp qt|-;simp at qt;simp[c70,AG,e1,qf,qp,qt,AL,AJ,AF]
 rw[if_neg a4];have a4':¬((BU c.beach).length:Int)=0:=fun h=>a4 (List.eq_nil_of_length_eq_zero (by omega));by_cases a5:(c.chairs.length:Int)=c.beach.rows
 ·have ec:HK c=c.chairs.all (fun l=>decide ((l.length:Int)=c.beach.places)):=by unfold HK;rw[decide_eq_true a5,cg]
  rw[ec];obtain⟨f1,g1,q1⟩:=APR c hch c.chairs.length 0 (by omega);obtain⟨f2,q2⟩:=APS c (by omega) c.fams.length 0 (by omega);have q1:=fun n m=>q1 n (m+101) (by omega);have q2:=fun n m=>q2 n (m+101) (by omega);rw[cx]at q1 q2;generalize c.chairs.all (fun l=>decide ((l.length:Int)=c.beach.places))=y1 at *;generalize c.fams.all LD=y2 at *;generalize BU c.beach=T at *;simp only[AD,AC]at qf qp qt q1 q2|-;cases y1<;>cases y2<;>(simp at q1 q2;simp[c70,AG,e1,qf,qp,qt,a4,a4',a5,q1,q2,g1,AL,AJ,AF])
 ·have ec:HK c=false:=by unfold HK;rw[decide_eq_false a5,ct]
  rw[if_pos ec];generalize BU c.beach=T at *;simp only[AD,AC]at qf qp qt|-;simp[c70,AG,e1,qf,qp,qt,a4,a4',a5,AL,AJ,AF]
theorem AKO(l k:Nat)(o:Option (Nat×A0))(ls:List (List Bool)):(ls.map AR).map (dz (BK l k o 3))=ls.map AR:=by rw[ck];exact bf fun x _=>rfl
theorem A48(ls:List (List Bool)):(ls.map AR).map (dz iO)=ls.map AR:=by rw[ck];exact bf fun x _=>rfl
theorem MA{P:Program}{fr:Fr}{s:St}(e d c:Nat)(ys:List (List V))(h:B9 P e 0 ys=true):vZ P e d c fr s .nil ys=some (⟨c+1,(d,true,.vec s.up.length d c ys.length)::fr,s.put s.up.length d c (.vec e ys)⟩,[(s.up.length,d),(s.up.length,d+GK)]):=by unfold vZ;simp[IZ,h]
theorem A49{k:Nat}{l:List Bool}(h:k+l.length<=100000):B9 db 4 k (l.map A4)=true:=by rw[CB (by simp) (by simp)];simp[maxLen,A4];omega
theorem A5A{k:Nat}(hk:k<=100000)(q g n:Nat):B9 db 97 k [[.vec 0 q g n]]=true:=by rw[CB (by simp) (by simp)];simp[maxLen];omega
theorem A5B{k:Nat}{l:List Q8}(h:k+l.length<=100000):B9 db 94 k (l.map AS)=true:=by rw[CB (by simp) (by simp)];simp[maxLen,AS];omega
abbrev bxC(b:AN)(p:List (List Int))(v w:V):A0:=.box (ID b++[sl (p.map AL),v,w])
theorem ATE(c:AV)(h1:c.chairs.length<=100)(h2:∀l∈c.chairs,l.length<=100)(cs2:List V)(hcs:∀o,cs2.map (BK 0 28 o 3)=cs2):∀(d k g γ:Nat),k+d=c.chairs.length->2<g->∃g' γ',g<=g'/\∀n m,d<m->BF (AE db ann kn (n+200) 59) aD (ann 59 (BW aD)) m ⟨g,[(1,true,.ptr 0 1 0 0),(2,true,.ptr 0 2 1 0),(3,true,.ptr 0 3 2 0),(4,true,i k)],⟨[],(1,0,.box (AD c))::(2,1,.box cs2)::(3,2,bxC c.beach c.plan (pv 30 γ ((c.chairs.take k).map AR)) .nil)::pl 30 γ 97 ((c.chairs.take k).map AR)⟩⟩ =
  some (.exit 0,⟨g',[(18,true,.bool false),(17,true,i c.chairs.length),(16,true,.list false (c.chairs.map AR)),(15,true,.ptr 0 1 0 10),(14,true,i c.chairs.length),(1,true,.ptr 0 1 0 0),(2,true,.ptr 0 2 1 0),(3,true,.ptr 0 3 2 0),(4,true,i c.chairs.length)],⟨[],(1,0,.box (AD c))::(2,1,.box cs2)::(3,2,bxC c.beach c.plan (pv 30 γ' (c.chairs.map AR)) .nil)::pl 30 γ' 97 (c.chairs.map AR)⟩⟩)
 |0,k,g,γ,hk,hg=>by
  have:k=c.chairs.length:=by omega
  subst this;rw[bm];refine⟨g,γ,Nat.le_refl _,fun n m hm=>?_⟩;obtain⟨m,rfl⟩:=qNz m (by omega);rw[AB];simp only[AD,bxC,ID];cases c.chairs<;>simp
 |d+1,k,g,γ,hk,hg=>by
  have hk':k<c.chairs.length:=by omega
  have hw:=BM (k:=k) (by omega);have h3:=h2 _ (bw hk');have hst:(c.chairs.take (k+1)).map AR=(c.chairs.take k).map AR++[AR c.chairs[k]]:=by rw[bx hk',bg];rfl
  have hRl:((c.chairs.take k).map AR).length=k:=by rw[cd,bn];omega
  have hto:=fun o=>AKO 0 28 o (c.chairs.take k);have hwk:=A48 (c.chairs.take k);have hR1:∀e∈(c.chairs.take k).map AR,e.length=1:=fun e he=>by obtain⟨l,_,rfl⟩:=bp.1 he;rfl
  have ha:=fun q g n=>A5A (k:=((c.chairs.take k).map AR).length) (by omega) q g n;have hai:=A49 (k:=0) (l:=c.chairs[k]) (by omega);generalize hLk:c.chairs[k]=L at *;cases L with
  |nil=>
   obtain⟨g',γ',hgg,ih⟩:=ATE c h1 h2 cs2 hcs d (k+1) (g+1+1) (g+1) (by omega) (by omega)
   refine⟨g',γ',by omega,fun n m hm=>?_⟩
   obtain⟨m,rfl⟩:=qNz m (by omega)
   have ih:=ih n m (by omega)
   rw[hst]at ih
   generalize (c.chairs.take k).map AR=R at *
   rw[AB]
   simp only[AD,bxC,ID]at ih|-
   simp[AR]at hai
   cases R with
   |nil=>simp[AR,lb,RU]at ih ha;simp[show g+1+1=g+2 from rfl,hk',hw,hLk,AR,A4,ha,hai,hcs,P6,ih,A3,C0,GK,MA,BV,B7,BD,EX,EG,show 2<g+2 by omega]
   |cons r R=>
    have hR2:=hR1 r (by simp)
    have hR3:=eq_true (fun e he=>hR1 e (bz r he):∀e∈R,e.length=1)
    simp[AR,lb,RU]at ih ha hto hwk
    simp[show g+1+1=g+2 from rfl,hk',hw,hLk,AR,A4,ha,hai,hcs,ih,hto,hwk,hR2,hR3,P6,RU,A3,C0,GK,MA,BV,B7,BD,EX,EG,show 2<g+2 by omega]
  |cons x L=>
   obtain⟨g',γ',hgg,ih⟩:=ATE c h1 h2 cs2 hcs d (k+1) (g+1+1) (g+1) (by omega) (by omega)
   refine⟨g',γ',by omega,fun n m hm=>?_⟩
   obtain⟨m,rfl⟩:=qNz m (by omega)
   have ih:=ih n m (by omega)
   rw[hst]at ih
   generalize (c.chairs.take k).map AR=R at *
   rw[AB]
   simp only[AD,bxC,ID]at ih|-
   simp[AR,A4]at hai
   cases R with
   |nil=>simp[AR,A4,lb,RU]at ih ha;simp[show g+1+1=g+2 from rfl,hk',hw,hLk,AR,A4,ha,hai,hcs,P6,ih,A3,C0,GK,MA,BV,B7,BD,EX,EG,show 2<g+2 by omega]
   |cons r R=>
    have hR2:=hR1 r (by simp)
    have hR3:=eq_true (fun e he=>hR1 e (bz r he):∀e∈R,e.length=1)
    simp[AR,A4,lb,RU]at ih ha hto hwk
    simp[show g+1+1=g+2 from rfl,hk',hw,hLk,AR,A4,ha,hai,hcs,ih,hto,hwk,hR2,hR3,P6,RU,A3,C0,GK,MA,BV,B7,BD,EX,EG,show 2<g+2 by omega]
theorem A5C(c:AV)(h1:c.fams.length<=100)(cs2:List V)(γ3:Nat)(R:List (List V)):∀(d k g γ:Nat),k+d=c.fams.length->2<g->∃g' γ',g<=g'/\∀n m,d<m->BF (AE db ann kn (n+200) 59) aE (ann 59 (BW aE)) m ⟨g,[(1,true,.ptr 0 1 0 0),(2,true,.ptr 0 2 1 0),(3,true,.ptr 0 3 2 0),(5,true,i k)],⟨[],(1,0,.box (AD c))::(2,1,.box cs2)::(3,2,bxC c.beach c.plan (pv 30 γ3 R) (pv 56 γ ((c.fams.take k).map AS)))::(pl 30 γ3 97 R++pl 56 γ 94 ((c.fams.take k).map AS))⟩⟩ =
  some (.exit 2,⟨g',[(36,true,.bool false),(35,true,i c.fams.length),(34,true,.list false (c.fams.map AS)),(33,true,.ptr 0 1 0 11),(32,true,i c.fams.length),(1,true,.ptr 0 1 0 0),(2,true,.ptr 0 2 1 0),(3,true,.ptr 0 3 2 0),(5,true,i c.fams.length)],⟨[],(1,0,.box (AD c))::(2,1,.box cs2)::(3,2,bxC c.beach c.plan (pv 30 γ3 R) (pv 56 γ' (c.fams.map AS)))::(pl 30 γ3 97 R++pl 56 γ' 94 (c.fams.map AS))⟩⟩)
 |0,k,g,γ,hk,hg=>by
  have:k=c.fams.length:=by omega
  subst this;rw[bm];refine⟨g,γ,Nat.le_refl _,fun n m hm=>?_⟩;obtain⟨m,rfl⟩:=qNz m (by omega);rw[AB];simp only[AD,bxC,ID];cases R<;>cases c.fams<;>simp
 |d+1,k,g,γ,hk,hg=>by
  have hk':k<c.fams.length:=by omega
  have hw:=BM (k:=k) (by omega);have hst:(c.fams.take (k+1)).map AS=(c.fams.take k).map AS++[AS c.fams[k]]:=by rw[bx hk',bg];rfl
  have hRl:((c.fams.take k).map AS).length=k:=by rw[cd,bn];omega
  have hS1:∀e∈(c.fams.take k).map AS,e.length=4:=fun e he=>by obtain⟨l,_,rfl⟩:=bp.1 he;rfl
  have ha:=A5B (k:=((c.fams.take k).map AS).length) (l:=[c.fams[k]]) (by rw[hRl];simp;omega);obtain⟨g',γ',hgg,ih⟩:=A5C c h1 cs2 γ3 R d (k+1) (g+1+1) (g+1) (by omega) (by omega);refine⟨g',γ',by omega,fun n m hm=>?_⟩;obtain⟨m,rfl⟩:=qNz m (by omega);have ih:=ih n m (by omega);rw[hst]at ih;generalize (c.fams.take k).map AS=S at *;generalize hLk:c.fams[k]=f at *;rw[AB];simp only[AD,bxC,ID]at ih|-;cases S with
  |nil=>cases R<;>(simp[AS,RU]at ih ha;simp[hk',hw,hLk,AS,RU,ha,ih,A3,C0,GK,MA,BV,B7,BD,EX,EG,show 0<g by omega,show 1<g by omega,show 2<g by omega])
  |cons q S=>
   have hS2:=hS1 q (by simp)
   have hS3:=eq_true (fun e he=>hS1 e (bz q he):∀e∈S,e.length=4)
   cases R<;>(simp[AS,RU]at ih ha;simp[hk',hw,hLk,AS,RU,ha,ih,hS2,hS3,A3,C0,GK,MA,BV,B7,BD,EX,EG,show 0<g by omega,show 1<g by omega,show 2<g by omega])
def P7(c:AV):List V:=ID c.beach++[sl (c.plan.map AL),sl (c.chairs.map AR),sl (c.fams.map AS)]
theorem ATF(n:Nat)(c:AV)(ht:ZF c=true):A2 db kn (AE db ann kn (n+900)) 21 [.agg (AD c)]=some (.agg (P7 c)):=by
 rw[AO rfl,AP Tryz.func21 b21 rfl (by simp[AD,AJ,AL,AF,AR,A4,AS])];obtain⟨t1,t2,t3,t4,t5,t6⟩:=RT ht;simp only[YE,cq,cm,Bool.or_eq_false_iff,Bool.not_eq_false',decide_eq_false_iff_not]at t1;obtain⟨⟨⟨⟨⟨u1,u2⟩,u3⟩,u4⟩,u5⟩,_⟩:=t1;obtain⟨u6,u7⟩:=XH u3;have qB:=fun n=>AY5 n c.beach (by omega) (by omega) (by omega) (fun l hl=>by have:=u7 l hl;omega) (by omega) (by omega);have qL:=fun n=>AKK n c.plan (by omega) (fun l hl=>by have:=t5 l hl;omega);have hz:∀o,([i 0,i 0,i 0,i 0,.nil,.nil,.nil,.nil,.nil,.nil,.nil,.nil]:List V).map (BK 0 28 o 3)=[i 0,i 0,i 0,i 0,.nil,.nil,.nil,.nil,.nil,.nil,.nil,.nil]:=fun o=>rfl;obtain⟨g1,γ1,h1,q1⟩:=ATE c (by omega) (fun l hl=>by have:=t6 l hl;omega) _ hz c.chairs.length 0 3 0 (by omega) (by omega);obtain⟨g2,γ2,h2,q2⟩:=A5C c (by omega) [i 0,i 0,i 0,i 0,.nil,.nil,.nil,.nil,.nil,.nil,.nil,.nil] γ1 (c.chairs.map AR) c.fams.length 0 g1 0 (by omega) (by omega);have q1:=fun n m=>q1 n (m+100) (by omega);have q2:=fun n m=>q2 n (m+100) (by omega);rw[show(c.chairs.take 0).map AR=[] from rfl]at q1;rw[show(c.fams.take 0).map AS=[] from rfl]at q2;have hg2:1<g2:=by omega
 have c1:∀e∈c.chairs.map AR,∀v∈e,AH 7 v=true:=fun e he v hv=>by obtain⟨l,_,rfl⟩:=bp.1 he;simp only[AR,dj,cw,or_false]at hv;subst hv;simp[A4]
 have c2:∀e∈c.fams.map AS,∀v∈e,AH 7 v=true:=fun e he v hv=>by obtain⟨l,_,rfl⟩:=bp.1 he;simp only[AS,dj,cw,or_false]at hv;rcases hv with rfl|rfl|rfl|rfl<;>rfl
 unfold P7;simp only[AD,AC,bxC,ID]at q1 q2 qB qL|-;generalize c.chairs.map AR=R at *;generalize c.fams.map AS=S at *;cases R with
 |nil=>
  cases S with
  |nil=>
   simp at q1 q2
   simp[c21,AG,qB,qL,q1,q2,hg2,RU,jM,sS,A3,C0,GK,BV,B7,BD,EX,EG]
  |cons t S=>
   have s1:=eq_true (c2 t (by simp))
   have s2:=eq_true (fun e he=>c2 e (bz t he):∀e∈S,∀v∈e,AH 7 v=true)
   simp[RU]at q1 q2
   simp[c21,AG,qB,qL,q1,q2,s1,s2,hg2,RU,jM,sS,A3,C0,GK,BV,B7,BD,EX,EG]
 |cons r R=>
  have r1:=eq_true (c1 r (by simp))
  have r2:=eq_true (fun e he=>c1 e (bz r he):∀e∈R,∀v∈e,AH 7 v=true)
  cases S with
  |nil=>
   simp[RU]at q1 q2
   simp[c21,AG,qB,qL,q1,q2,r1,r2,hg2,RU,jM,sS,A3,C0,GK,BV,B7,BD,EX,EG]
  |cons t S=>
   have s1:=eq_true (c2 t (by simp))
   have s2:=eq_true (fun e he=>c2 e (bz t he):∀e∈S,∀v∈e,AH 7 v=true)
   simp[RU]at q1 q2
   simp[c21,AG,qB,qL,q1,q2,r1,r2,s1,s2,hg2,RU,jM,sS,A3,C0,GK,BV,B7,BD,EX,EG]
end Go.Proofs.Tryz.Op
