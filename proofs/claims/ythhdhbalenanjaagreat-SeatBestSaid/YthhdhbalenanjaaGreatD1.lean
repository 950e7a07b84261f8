/- Contracts of the reference: People, Chairs, Minds, Groups. No condition but small numbers. -/
import Derived.Test.YthhdhbalenanjaaGreatC1
import Derived.Test.YthhdhbalenanjaaGreatEa
open Go.Proofs.Tryz renaming prog->db
open List renaming getD_eq_getElem?_getD->bj,getElem?_eq_getElem->bk,drop_eq_getElem_cons->bq,getElem_mem->bw,take_succ_eq_append_getElem->bx,mem_cons_of_mem->bz,range->bb,length_range->bc,map_congr_left->bf,map_append->bg,all_cons->bh,take_length->bm,length_take->bn,mem_map->bp,drop_eq_nil_of_le->cj,map_map->ck,not_mem_nil->cw,drop_zero->cx,getElem_range->cz,length_map->cd,mem_range->cn,drop_length->cp,mem_cons->dj,map_take->dk,sum_append->dq,count_le_length->dv,map->dz
open Bool renaming and_eq_true->cq,true_and->cg,not_eq_true'->cm,false_and->ct
open Option renaming getD_some->dx
set_option maxRecDepth 100000
set_option linter.unusedSimpArgs false
open Go Go.Pg Go.Proofs Go.Wind
namespace Go.Wind
def CD(G:List (Nat×Int)):Int:=(G.map (·.2)).sum
theorem jM{G:List (Nat×Int)}{k:Nat}(h:k<G.length):CD (G.take (k+1))=CD (G.take k)+G[k].2:=by unfold CD;rw[bx h,bg,dq];simp
theorem ZI:∀{G:List (Nat×Int)},(∀g∈G,0<=g.2/\g.2<=4)->0<=CD G/\CD G<=4*G.length
 |[],_=>by simp[CD]
 |g::G,h=>by have ih:=ZI (G:=G) fun x hx=>h x (by simp[hx]);have h1:=h g (by simp);simp only[CD,List.map_cons,List.sum_cons,List.length_cons]at ih|-;omega
end Go.Wind
namespace Go.Proofs.Tryz.Op
theorem A25(G:List (Nat×Int))(hl:G.length<=100)(hg:∀g∈G,0<=g.2/\g.2<=4):∀(d k:Nat),k+d=G.length->∀n m,d<m->BA (AE db ann kn (n+100) 19) ZT (ann 19 (BU ZT)) m ⟨0,[(0,true,.list false (G.map A2)),(3,true,i (CD (G.take k))),(4,true,i k)],⟨[],[]⟩⟩ =
  some (.exit 0,⟨0,[(8,true,.bool false),(7,true,i G.length),(6,true,.list false (G.map A2)),(5,true,i G.length),(0,true,.list false (G.map A2)),(3,true,i (CD G)),(4,true,i G.length)],⟨[],[]⟩⟩)
 |0,k,hk,n,m+1,hm=>by
  obtain rfl:k=G.length:=by omega
  rw[bm,AB];simp
 |d+1,k,hk,n,m+1,hm=>by
  have hk':k<G.length:=by omega
  have hw:=BJ (k:=k) (by omega);have h1:=hg G[k] (bw hk');have h2:=ZI (G:=G.take k) fun x hx=>hg x (List.mem_of_mem_take hx);have h3:(G.take k).length<=100:=by rw[bn];omega
  have hwp:IntKind.i64.wrap (CD (G.take k)+G[k].2)=CD (G.take k)+G[k].2:=AW (by omega) (by omega);have ih:=A25 G hl hg d (k+1) (by omega) n m (by omega);rw[jM hk']at ih;generalize CD (G.take k)=S at *;generalize CD G=SS at *;rw[AB];simp at ih;simp[hk',hw,hwp,A2,ih]
theorem wV(n:Nat)(G:List (Nat×Int))(hl:G.length<=100)(hg:∀g∈G,0<=g.2/\g.2<=4):AY db kn (AE db ann kn (n+300)) 72 [.list false (G.map A2)]=some (i (CD G)):=by rw[AN rfl,AO Tryz.func72 b72 rfl (by simp[A2])];have q:=fun n m=>A25 G hl hg G.length 0 (by omega) n (m+101) (by omega);rw[show CD (G.take 0)=0 from rfl]at q;generalize CD G=S at *;simp at q;simp[c72,AF,q]
theorem A26(c:AQ)(r:Nat)(hr:r<c.chairs.length)(hl:c.chairs[r].length<=100)(N:Nat)(hN:N<=100000):∀(d j:Nat),j+d=c.chairs[r].length->∃fr,BD fr 1=some (true,.ptr 0 1 0 0)/\BD fr 3=some (true,i ((N+c.chairs[r].count true:Nat):Int))/\BD fr 4=some (true,i r)/\∀n m,d<m->BA (AE db ann kn (n+200) 34) ZU (ann 34 (BU ZU)) m ⟨1,[(1,true,.ptr 0 1 0 0),(3,true,i ((N+(c.chairs[r].take j).count true:Nat):Int)),(4,true,i r),(5,true,i j)],⟨[],[(1,0,.box (AD c))]⟩⟩ =
  some (.exit 2,⟨1,fr,⟨[],[(1,0,.box (AD c))]⟩⟩)
 |0,j,hd=>by
  obtain rfl:j=c.chairs[r].length:=by omega
  rw[bm];refine⟨?fr,?g1,?g3,?g4,fun n m hm=>?g2⟩;case g2=>
   obtain⟨m,rfl⟩:=qNz m (by omega)
   rw[AB]
   simp[AD,hr,AS]
   rfl
  case g1=>simp
  case g3=>simp
  case g4=>simp
 |d+1,j,hd=>by
  have hj:j<c.chairs[r].length:=by omega
  have hw:=BJ (k:=j) (by omega);obtain⟨fr,g1,g3,g4,ih⟩:=A26 c r hr hl N hN d (j+1) (by omega);refine⟨fr,g1,g3,g4,fun n m hm=>?_⟩;obtain⟨m,rfl⟩:=qNz m (by omega);have ih:=ih n m (by omega);rw[ZG _ hj]at ih;have hcl:(c.chairs[r].take j).count true<=100:=by have:=dv (a:=true) (l:=c.chairs[r].take j);rw[bn]at this;omega
  generalize (c.chairs[r].take j).count true=C at *;have hwC2:IntKind.i64.wrap ((N:Int)+(C:Int)+1)=((N:Int)+((C:Int)+1)):=by rw[AW (by omega) (by omega)];omega
  rw[AB];simp only[AD]at ih|-;cases hz:c.chairs[r][j]with
  |true=>
   rw[hz,if_pos rfl]at ih
   simp at ih
   simp[hr,hj,hw,hz,AS,A6,hwC2,ih]
  |false=>
   rw[hz,if_neg (by decide),Nat.add_zero]at ih
   simp at ih
   simp[hr,hj,hw,hz,AS,A6,ih]
theorem A27(c:AQ)(hl:c.chairs.length<=100)(hr:∀l∈c.chairs,l.length<=100):∀(d r N:Nat),r+d=c.chairs.length->N<=100*r->∃fr,BD fr 3=some (true,i ((N+((c.chairs.drop r).map fun l=>l.count true).sum:Nat):Int))/\∀n m,d<m->BA (AE db ann kn (n+400) 34) ZV (ann 34 (BU ZV)) m ⟨1,[(1,true,.ptr 0 1 0 0),(3,true,i N),(4,true,i r)],⟨[],[(1,0,.box (AD c))]⟩⟩ =
  some (.exit 0,⟨1,fr,⟨[],[(1,0,.box (AD c))]⟩⟩)
 |0,r,N,hd,hN=>by
  obtain rfl:r=c.chairs.length:=by omega
  refine⟨?fr,?g3,fun n m hm=>?g2⟩;case g2=>
   obtain⟨m,rfl⟩:=qNz m (by omega)
   rw[AB]
   simp[AD]
   rfl
  case g3=>simp
 |d+1,r,N,hd,hN=>by
  have hj:r<c.chairs.length:=by omega
  have hw:=BJ (k:=r) (by omega);have hlj:=hr c.chairs[r] (bw hj);obtain⟨f1,g1,g3,g4,q⟩:=A26 c r hj hlj N (by omega) c.chairs[r].length 0 (by omega);have q:=fun n m=>q n (m+101) (by omega);have hcl:=dv (a:=true) (l:=c.chairs[r]);obtain⟨fr,e3,ih⟩:=A27 c hl hr d (r+1) (N+c.chairs[r].count true) (by omega) (by omega);have hs:N+c.chairs[r].count true+((c.chairs.drop (r+1)).map fun l=>l.count true).sum=N+((c.chairs.drop r).map fun l=>l.count true).sum:=by rw[bq hj,List.map_cons,List.sum_cons];omega
  rw[hs]at e3;refine⟨fr,e3,fun n m hm=>?_⟩;obtain⟨m,rfl⟩:=qNz m (by omega);have ih:=ih n m (by omega);generalize c.chairs[r].count true=C at *;simp only[List.take_zero,List.count_nil,Nat.add_zero]at q;rw[AB];simp only[AD]at ih q|-;simp at ih q g3;simp[hj,hw,q,g1,g3,g4,ih]
theorem mR(n:Nat)(c:AQ)(hl:c.chairs.length<=100)(hr:∀l∈c.chairs,l.length<=100):AY db kn (AE db ann kn (n+600)) 73 [.agg (AD c)]=some (i (CP c)):=by rw[AN rfl,AO Tryz.func73 b73 rfl (by simp[AD,AS,A6,AU])];obtain⟨fr,g3,q⟩:=A27 c hl hr c.chairs.length 0 0 (by omega) (by omega);have q:=fun n m=>q n (m+101) (by omega);have e:((c.chairs.drop 0).map fun l=>l.count true).sum=CP c:=rfl;rw[e,Nat.zero_add]at g3;generalize CP c=T at *;simp only[AD]at q|-;simp at q g3;simp[c73,AF,q,g3]
theorem AKN(n:Nat)(c:AQ)(a b:Nat)(ha:a<c.fams.length)(hb:b<c.fams.length):AY db kn (AE db ann kn (n+300)) 122 [.agg (AD c),i a,i b]=some (.bool (JT c a b)):=by
 rw[AN rfl,AO Tryz.func122 BFS rfl (by simp[AD,AS,A6,AU])];unfold JT;rw[YT ha,YT hb];have e:decide ((a:Int)=(b:Int))=decide (a=b):=decide_eq_decide.2 (by omega);have e2:decide (a≠b)=!decide (a=b):=by simp
 rw[e2];generalize decide (a=b)=z at *;rcases hF1:c.fams[a]with⟨s1,g1,d1,h1⟩;rcases hF2:c.fams[b]with⟨s2,g2,d2,h2⟩;simp only[AD];have p1:Nat.beq 4 1=false:=rfl;cases z<;>cases d1<;>cases h1<;>cases d2<;>cases h2<;>simp[A5G,AF,e,ha,hb,hF1,hF2,AU,CI,GF,B7,MP,JO,MO,p1]
end Go.Proofs.Tryz.Op
namespace Go.Wind
def AR(G:List (Nat×Int))(ss:List (Int×Int))(k:Nat):Sp:=⟨(G.getD k (0,0)).1,(G.getD k (0,0)).2,(ss.getD k (0,0)).1,(ss.getD k (0,0)).2⟩
def K4(c:AQ)(x y:Sp)(a b:Nat):Bool :=
 let d:=y.place+(a:Int)-x.place-(b:Int)
 decide (d=0)||((decide (d=1)||decide (d = -1))&&JT c y.fam x.fam)
theorem AA6(c:AQ)(x y:Sp):RN c x y=(bb y.size.toNat).any fun a=>(bb x.size.toNat).any (K4 c x y a):=rfl
def SY(c:AQ)(x y:Sp):Bool:=decide (y.row≠x.row)||!RN c x y
end Go.Wind
namespace Go.Proofs.Tryz.Op
section
variable (c:AQ)(G:List (Nat×Int))(ss:List (Int×Int))(t q:Nat)
set_option maxHeartbeats 1000000 in
theorem API(hG:ss.length<=G.length)(ht:t+1=ss.length)(hq:q<t)(hs:ss.length<=100)(hf:∀g∈G,g.1<c.fams.length/\0<=g.2/\g.2<=4)(hp:0<=(AR G ss q).place/\(AR G ss q).place<=1000)(hx:0<=(AR G ss t).place/\(AR G ss t).place<=1000)(a:Nat)(ha:a<=4):∀(d b:Nat),b+d=(AR G ss t).size.toNat->∃fr,BD fr 1=some (true,.list false (G.map A2))/\BD fr 2=some (true,.list false (ss.map AJ))/\BD fr 3=some (true,.ptr 0 3 0 0)/\BD fr 7=some (true,i t)/\BD fr 8=some (true,.ptr 0 8 1 0)/\BD fr 9=some (true,i (AR G ss t).size)/\BD fr 10=some (true,i q)/\BD fr 11=some (true,i a) /\
  ∀n m,d<m->BA (AE db ann kn (n+400) 112) T3 (ann 112 (BU T3)) m ⟨2,[(1,true,.list false (G.map A2)),(2,true,.list false (ss.map AJ)),(3,true,.ptr 0 3 0 0),(7,true,i t),(8,true,.ptr 0 8 1 0),(9,true,i (AR G ss t).size),(10,true,i q),(11,true,i a),(12,true,i b)],⟨[],[(3,0,.box (AD c)),(8,1,.box [i (AR G ss t).row,i (AR G ss t).place])]⟩⟩ =
   if ((bb (AR G ss t).size.toNat).drop b).any (K4 c (AR G ss t) (AR G ss q) a)=true then some (.ret,⟨2,[(6,true,.bool false)],⟨[],[]⟩⟩) else some (.exit 4,⟨2,fr,⟨[],[(3,0,.box (AD c)),(8,1,.box [i (AR G ss t).row,i (AR G ss t).place])]⟩⟩)
 |0,b,hd=>by
  have hgt:t<G.length:=by omega
  have h1:=hf G[t] (bw hgt);have hge:(AR G ss t).size=G[t].2:=by simp[AR,bj,bk hgt]
  have hb:(b:Int)=(AR G ss t).size:=by omega
  rw[cj (by rw[bc];omega),hb];refine⟨?fr,?g1,?g2,?g3,?g4,?g5,?g6,?g7,?g8,fun n m hm=>?g9⟩;case g9=>
   obtain⟨m,rfl⟩:=qNz m (by omega)
   rw[AB]
   simp[AD]
   rfl
  all_goals simp
 |d+1,b,hd=>by
  have hgt:t<G.length:=by omega
  have hgq:q<G.length:=by omega
  have hsq:q<ss.length:=by omega
  have h1:=hf G[t] (bw hgt);have h2:=hf G[q] (bw hgq);have et:(AR G ss t).size=G[t].2:=by simp[AR,bj,bk hgt]
  have et1:(AR G ss t).fam=G[t].1:=by simp[AR,bj,bk hgt]
  have eq1:(AR G ss q).fam=G[q].1:=by simp[AR,bj,bk hgq]
  have eq2:(AR G ss q).place=ss[q].2:=by simp[AR,bj,bk hsq]
  have hlt:(b:Int)<(AR G ss t).size:=by omega
  have hw:=BJ (k:=b) (by omega);have qm:=fun n=>AKN n c G[q].1 G[t].1 h2.1 h1.1;have w1:IntKind.i64.wrap (ss[q].2+(a:Int))=ss[q].2+a:=AW (by omega) (by omega);have w2:IntKind.i64.wrap (ss[q].2+(a:Int)-(AR G ss t).place)=ss[q].2+a-(AR G ss t).place:=AW (by omega) (by omega);obtain⟨D,hD⟩:∃D,ss[q].2+(a:Int)-(AR G ss t).place-b=D:=⟨_,rfl⟩;have w3:IntKind.i64.wrap (ss[q].2+(a:Int)-(AR G ss t).place-b)=D:=by rw[AW (by omega) (by omega),hD]
  obtain⟨fr,g1,g2,g3,g4,g5,g6,g7,g8,ih⟩:=API hG ht hq hs hf hp hx a ha d (b+1) (by omega);refine⟨fr,g1,g2,g3,g4,g5,g6,g7,g8,fun n m hm=>?_⟩;obtain⟨m,rfl⟩:=qNz m (by omega);have ih:=ih n m (by omega);rw[bq (by rw[bc];omega),List.any_cons,cz];have ec:K4 c (AR G ss t) (AR G ss q) a b=(decide (ss[q].2+(a:Int)-(AR G ss t).place-b=0)||((decide (ss[q].2+(a:Int)-(AR G ss t).place-b=1)||decide (ss[q].2+(a:Int)-(AR G ss t).place-b = -1))&&JT c G[q].1 G[t].1)):=by unfold K4;rw[eq1,et1,eq2]
  rw[ec,hD];clear hD ec;generalize ((bb (AR G ss t).size.toNat).drop (b+1)).any (K4 c (AR G ss t) (AR G ss q) a)=z at ih|-;generalize JT c G[q].1 G[t].1=z4 at *;generalize AR G ss t=X at *;generalize e1:decide (D=0)=z1;generalize e2:decide (D=1)=z2;generalize e3:decide (D = -1)=z3;rw[AB];simp only[AD]at ih qm|-;cases z1 with
  |true=>simp[hlt,hsq,w1,w2,w3,e1,jB,AJ]
  |false=>
   cases z2 with
   |true=>
    cases z4 with
    |true=>simp[hlt,hgt,hgq,hsq,w1,w2,w3,e1,e2,qm,jB,A2,AJ,AS,A6,AU]
    |false=>cases z<;>(simp at ih;simp[hlt,hw,hgt,hgq,hsq,w1,w2,w3,e1,e2,qm,jB,A2,AJ,AS,A6,AU,ih])
   |false=>
    cases z3 with
    |true=>
     cases z4 with
     |true=>simp[hlt,hgt,hgq,hsq,w1,w2,w3,e1,e2,e3,qm,A2,AJ,AS,A6,AU]
     |false=>cases z<;>(simp at ih;simp[hlt,hw,hgt,hgq,hsq,w1,w2,w3,e1,e2,e3,qm,A2,AJ,AS,A6,AU,ih])
    |false=>cases z<;>(simp at ih;simp[hlt,hw,hsq,w1,w2,w3,e1,e2,e3,jB,AJ,ih])
theorem APJ(hG:ss.length<=G.length)(ht:t+1=ss.length)(hq:q<t)(hs:ss.length<=100)(hf:∀g∈G,g.1<c.fams.length/\0<=g.2/\g.2<=4)(hp:0<=(AR G ss q).place/\(AR G ss q).place<=1000)(hx:0<=(AR G ss t).place/\(AR G ss t).place<=1000):∀(d a:Nat),a+d=(AR G ss q).size.toNat->∃fr,BD fr 1=some (true,.list false (G.map A2))/\BD fr 2=some (true,.list false (ss.map AJ))/\BD fr 3=some (true,.ptr 0 3 0 0)/\BD fr 7=some (true,i t)/\BD fr 8=some (true,.ptr 0 8 1 0)/\BD fr 9=some (true,i (AR G ss t).size)/\BD fr 10=some (true,i q) /\
  ∀n m,d<m->BA (AE db ann kn (n+600) 112) T4 (ann 112 (BU T4)) m ⟨2,[(1,true,.list false (G.map A2)),(2,true,.list false (ss.map AJ)),(3,true,.ptr 0 3 0 0),(7,true,i t),(8,true,.ptr 0 8 1 0),(9,true,i (AR G ss t).size),(10,true,i q),(11,true,i a)],⟨[],[(3,0,.box (AD c)),(8,1,.box [i (AR G ss t).row,i (AR G ss t).place])]⟩⟩ =
   if ((bb (AR G ss q).size.toNat).drop a).any (fun a=>(bb (AR G ss t).size.toNat).any (K4 c (AR G ss t) (AR G ss q) a))=true then some (.ret,⟨2,[(6,true,.bool false)],⟨[],[]⟩⟩) else some (.exit 2,⟨2,fr,⟨[],[(3,0,.box (AD c)),(8,1,.box [i (AR G ss t).row,i (AR G ss t).place])]⟩⟩)
 |0,a,hd=>by
  have hgq:q<G.length:=by omega
  have h1:=hf G[q] (bw hgq);have hge:(AR G ss q).size=G[q].2:=by simp[AR,bj,bk hgq]
  have hb:(a:Int)=G[q].2:=by omega
  rw[cj (by rw[bc];omega),hb];refine⟨?fr,?g1,?g2,?g3,?g4,?g5,?g6,?g7,fun n m hm=>?g9⟩;case g9=>
   obtain⟨m,rfl⟩:=qNz m (by omega)
   rw[AB]
   simp[AD,hgq,A2]
   rfl
  all_goals simp
 |d+1,a,hd=>by
  have hgq:q<G.length:=by omega
  have hgt:t<G.length:=by omega
  have h2:=hf G[q] (bw hgq);have h3:=hf G[t] (bw hgt);have eq3:(AR G ss q).size=G[q].2:=by simp[AR,bj,bk hgq]
  have hlt:(a:Int)<G[q].2:=by omega
  have hw:=BJ (k:=a) (by omega);obtain⟨f0,b1,b2,b3,b4,b5,b6,b7,b8,qi⟩:=API c G ss t q hG ht hq hs hf hp hx a (by omega) (AR G ss t).size.toNat 0 (by omega);have hts:(AR G ss t).size=G[t].2:=by simp[AR,bj,bk hgt]
  have qi:=fun n m=>qi n (m+100) (by omega);rw[cx]at qi;obtain⟨fr,g1,g2,g3,g4,g5,g6,g7,ih⟩:=APJ hG ht hq hs hf hp hx d (a+1) (by omega);refine⟨fr,g1,g2,g3,g4,g5,g6,g7,fun n m hm=>?_⟩;obtain⟨m,rfl⟩:=qNz m (by omega);have ih:=ih n m (by omega);rw[bq (by rw[bc];omega),List.any_cons,cz];generalize ((bb (AR G ss q).size.toNat).drop (a+1)).any (fun a=>(bb (AR G ss t).size.toNat).any (K4 c (AR G ss t) (AR G ss q) a))=z at ih|-;generalize (bb (AR G ss t).size.toNat).any (K4 c (AR G ss t) (AR G ss q) a)=z1 at *;generalize AR G ss t=X at *;rw[AB];simp only[AD]at ih qi|-;cases z1<;>cases z<;>(simp at ih qi;simp[hlt,hw,hgq,qi,b1,b2,b3,b4,b5,b6,b7,b8,A2,ih])
end
theorem A28(c:AQ)(G:List (Nat×Int))(ss:List (Int×Int))(t:Nat)(hG:ss.length<=G.length)(ht:t+1=ss.length)(hs:ss.length<=100)(hf:∀g∈G,g.1<c.fams.length/\0<=g.2/\g.2<=4)(hp:∀q,q<t->0<=(AR G ss q).place/\(AR G ss q).place<=1000)(hx:0<=(AR G ss t).place/\(AR G ss t).place<=1000):∀(d q:Nat),q+d=t->∃fr,
  ∀n m,d<m->BA (AE db ann kn (n+800) 112) ZW (ann 112 (BU ZW)) m ⟨2,[(1,true,.list false (G.map A2)),(2,true,.list false (ss.map AJ)),(3,true,.ptr 0 3 0 0),(7,true,i t),(8,true,.ptr 0 8 1 0),(9,true,i (AR G ss t).size),(10,true,i q)],⟨[],[(3,0,.box (AD c)),(8,1,.box [i (AR G ss t).row,i (AR G ss t).place])]⟩⟩ =
   if ((bb t).drop q).all (fun q=>SY c (AR G ss t) (AR G ss q))=true then some (.exit 0,⟨2,fr,⟨[],[(3,0,.box (AD c)),(8,1,.box [i (AR G ss t).row,i (AR G ss t).place])]⟩⟩) else some (.ret,⟨2,[(6,true,.bool false)],⟨[],[]⟩⟩)
 |0,q,hd=>by
  obtain rfl:q=t:=by omega
  rw[cj (by rw[bc];omega)];refine⟨?fr,fun n m hm=>?g9⟩;case g9=>
   obtain⟨m,rfl⟩:=qNz m (by omega)
   rw[AB]
   simp[AD]
   rfl
 |d+1,q,hd=>by
  have hq:q<t:=by omega
  have hgq:q<G.length:=by omega
  have hsq:q<ss.length:=by omega
  have hw:=BJ (k:=q) (by omega);have hlt:(q:Int)<(t:Int):=by omega
  have eq2:(AR G ss q).row=ss[q].1:=by simp[AR,bj,bk hsq]
  obtain⟨f0,b1,b2,b3,b4,b5,b6,b7,qi⟩:=APJ c G ss t q hG ht hq hs hf (hp q hq) hx (AR G ss q).size.toNat 0 (by omega);have qi:=fun n m=>qi n (m+100) (by
   have h2:=hf G[q] (bw hgq);have:(AR G ss q).size=G[q].2:=by simp[AR,bj,bk hgq]
   omega)
  rw[cx,<-AA6]at qi;obtain⟨fr,ih⟩:=A28 c G ss t hG ht hs hf hp hx d (q+1) (by omega);refine⟨fr,fun n m hm=>?_⟩;obtain⟨m,rfl⟩:=qNz m (by omega);have ih:=ih n m (by omega);rw[bq (by rw[bc];omega),bh,cz];have ef:SY c (AR G ss t) (AR G ss q)=(decide (ss[q].1≠(AR G ss t).row)||!RN c (AR G ss t) (AR G ss q)):=by unfold SY;rw[eq2]
  rw[ef];generalize ((bb t).drop (q+1)).all (fun q=>SY c (AR G ss t) (AR G ss q))=z at ih|-;generalize RN c (AR G ss t) (AR G ss q)=z1 at *;generalize AR G ss t=X at *;rw[AB];simp only[AD]at ih qi|-;by_cases hr:ss[q].1=X.row
  ·have hr':decide (ss[q].1≠X.row)=false:=by simp[hr]
   rw[hr'];cases z1<;>cases z<;>(simp at ih qi;simp[hlt,hw,hsq,hr,qi,b1,b2,b3,b4,b5,b6,b7,AJ,ih])
  ·have hr':decide (ss[q].1≠X.row)=true:=by simp[hr]
   rw[hr'];cases z<;>(simp at ih;simp[hlt,hw,hsq,hr,AJ,ih])
def FQ(c:AQ)(G:List (Nat×Int))(ss:List (Int×Int))(t:Nat):Bool:=C4 c (AR G ss t)&&(bb t).all fun q=>SY c (AR G ss t) (AR G ss q)
theorem APK(n:Nat)(c:AQ)(h1:0<=c.beach.rows/\c.beach.rows<=1000)(h2:0<=c.beach.places/\c.beach.places<=1000)(G:List (Nat×Int))(ss:List (Int×Int))(t:Nat)(hG:ss.length<=G.length)(ht:t+1=ss.length)(hs:ss.length<=100)(hf:∀g∈G,g.1<c.fams.length/\0<=g.2/\g.2<=4)(hp:∀q,q<t->0<=(AR G ss q).place/\(AR G ss q).place<=1000):AY db kn (AE db ann kn (n+1000)) 74 [.agg (AD c),.list false (G.map A2),.list false (ss.map AJ)]=some (.bool (FQ c G ss t)):=by
 rw[AN rfl,AO Tryz.func74 b74 rfl (by simp[AD,AS,A6,AU,A2])];have hgt:t<G.length:=by omega
 have hst:t<ss.length:=by omega
 have hf1:=hf G[t] (bw hgt);have e1:(AR G ss t).size=G[t].2:=by simp[AR,bj,bk hgt]
 have e2:(AR G ss t).row=ss[t].1:=by simp[AR,bj,bk hst]
 have e3:(AR G ss t).place=ss[t].2:=by simp[AR,bj,bk hst]
 have hlen:(ss.length:Int)=(t:Int)+1:=by omega
 have w0:IntKind.i64.wrap ((t:Int)+1-1)=(t:Int):=by rw[AW (by omega) (by omega)];omega
 have hlt0:¬((t:Int)+1<=(t:Int)):=by omega
 have w00:IntKind.i64.wrap (t:Int)=(t:Int):=AW (by omega) (by omega);have w1:IntKind.i64.wrap (c.beach.rows-1)=c.beach.rows-1:=AW (by omega) (by omega);have w2:IntKind.i64.wrap (c.beach.places-G[t].2)=c.beach.places-G[t].2:=AW (by omega) (by omega);have qi:=fun n=>kIn n ss[t].1 0 (c.beach.rows-1);unfold FQ;have ef:C4 c (AR G ss t)=(F1 ss[t].1 0 (c.beach.rows-1)&&(!decide (ss[t].2<0)&&!decide (c.beach.places-G[t].2<ss[t].2))):=by unfold C4;rw[e1,e2,e3];congr 1;unfold F1;by_cases x1:ss[t].2<0<;>by_cases x2:c.beach.places-G[t].2<ss[t].2<;>simp[x1,x2]<;>omega
 have hp1:Nat.beq 2 1=false:=rfl;by_cases hfit:C4 c (AR G ss t)=true
 ·have hx:0<=(AR G ss t).place/\(AR G ss t).place<=1000:=by simp only[C4,cq,C6]at hfit;omega
  obtain⟨fr,q⟩:=A28 c G ss t hG ht hs hf hp hx t 0 (by omega);have q:=fun n m=>q n (m+101) (by omega);rw[cx]at q;rw[hfit,cg];rw[ef]at hfit;simp only[cq,cm,decide_eq_false_iff_not]at hfit;obtain⟨f1,f2,f3⟩:=hfit;rw[f1]at qi;rw[e1,e2,e3]at q;generalize (bb t).all (fun q=>SY c (AR G ss t) (AR G ss q))=z at *;simp only[AD]at q|-;cases z<;>(simp at q;simp[c74,AF,hlen,hgt,hst,hlt0,w0,w00,w1,w2,qi,f2,f3,A2,AJ,LN,CI,GF,B7,MP,JO,jB,MO,hp1,q])
 ·have hfit:C4 c (AR G ss t)=false:=by simpa using hfit
  rw[hfit,ct];rw[ef]at hfit;generalize F1 ss[t].1 0 (c.beach.rows-1)=z1 at *;generalize x2:decide (ss[t].2<0)=z2 at *;generalize x3:decide (c.beach.places-G[t].2<ss[t].2)=z3 at *;simp only[AD];cases z1<;>cases z2<;>cases z3<;>first|(exact absurd hfit (by decide))|simp[c74,AF,hlen,hgt,hst,hlt0,w0,w00,w1,w2,qi,x2,x3,A2,AJ,LN,CI,GF,B7,MP,JO,jB,MO,hp1]
end Go.Proofs.Tryz.Op
namespace Go.Wind
open Go.Proofs.Tryz.Op
def FS(c:AQ)(G:List (Nat×Int))(ss:List (Int×Int)):Bool:=decide (ss.length=G.length)&&(decide (CD G<=(CP c:Int))&&(bb ss.length).all (FQ c G ss))
theorem SZ(c:AQ)(f:Nat->Sp):∀n,D0 c [] ((bb n).map f)=(bb n).all fun t=>C4 c (f t)&&((bb t).map f).all (E3 c (f t))
 |0=>rfl
 |n+1=>by rw[List.range_succ,bg,M1,SZ c f n,List.all_append];simp[D0]
theorem fY{G:List (Nat×Int)}(hG:∀g∈G,1<=g.2/\g.2<=4){ss:List (Int×Int)}{t:Nat}(ht:t<G.length):1<=(AR G ss t).size:=by simp only[AR,bj,bk ht,dx];exact(hG _ (bw ht)).1
theorem mS{c:AQ}{G:List (Nat×Int)}(hG:∀g∈G,1<=g.2/\g.2<=4){ss:List (Int×Int)}{t:Nat}(ht:t<G.length):FQ c G ss t=(C4 c (AR G ss t)&&((bb t).map (AR G ss)).all (E3 c (AR G ss t))):=by
 rw[<- sS (fY hG ht) fun y hy=>by
  obtain⟨q,hq,rfl⟩:=bp.1 hy;exact fY hG (by have:=cn.1 hq; omega)]
 unfold FQ AD0 SY;rw[List.all_map];rfl
theorem RP{G:List (Nat×Int)}{ss:List (Int×Int)}(_:ss.length<=G.length):∀{l:List Sp},l.length=ss.length->(∀j (h1:j<l.length),l[j]=AR G ss j)->l=(bb ss.length).map (AR G ss):=fun {l} h1 h2=>by apply List.ext_getElem (by simp[h1]);intro j g1 g2;rw[h2 j g1];simp
theorem mT{c:AQ}{G:List (Nat×Int)}(hG:∀g∈G,1<=g.2/\g.2<=4)(ss:List (Int×Int)):FS c G ss=(decide (ss.length=G.length)&&(decide (CD G<=(CP c:Int))&&D0 c [] ((bb ss.length).map (AR G ss)))):=by
 unfold FS;by_cases h:ss.length=G.length
 ·congr 2;rw[SZ];have:∀l:List Nat,(∀t∈l,t<G.length)->l.all (FQ c G ss)=l.all fun t=>C4 c (AR G ss t)&&((bb t).map (AR G ss)).all (E3 c (AR G ss t)):=fun l hl=>by
   induction l with
   |nil=>rfl
   |cons t l ih=>rw[bh,bh,ih fun x hx=>hl x (by simp[hx]),mS hG (hl t (by simp))]
  exact this _ fun t ht=>by have:=cn.1 ht;omega
 ·simp[h]
theorem FB{c:AQ}(hc:BN c)(out:List Int):∀(k:Nat),k<=c.fams.length->∀g∈B0 c.fams out k,g.1<c.fams.length/\1<=g.2/\g.2<=4
 |0,_,g,hg=>by cases hg
 |k+1,hk,g,hg=>by
  simp only[B0,List.mem_append]at hg;rcases hg with hg|hg
  ·exact FB hc out k (by omega) g hg
  ·split at hg
   ·cases hg
   ·rw[List.mem_singleton]at hg;subst hg;have hk':k<c.fams.length:=by omega
    have e:c.fams.getD k ⟨0,0,false,false⟩=c.fams[k]:=by rw[bj,bk hk'];rfl
    have:=hc.fo _ (bw hk');simp only[e];exact⟨hk',this.1⟩
theorem RA{c:AQ}:∀(k:Nat),k<=c.fams.length->CD (B0 c.fams [] k)=((c.fams.take k).map Q9.size).sum
 |0,_=>rfl
 |k+1,hk=>by
  have hk':k<c.fams.length:=by omega
  have e:c.fams.getD k ⟨0,0,false,false⟩=c.fams[k]:=by rw[bj,bk hk'];rfl
  have ih:=RA (c:=c) k (by omega);unfold CD at ih|-;simp only[B0,cw,decide_false,Bool.false_eq_true,if_false,e,bg,dq,ih];rw[bx hk',bg,dq];rfl
theorem jN{c:AQ}(hc:BN c)(ss:List (Int×Int)):FS c (AK c []) ss=D1 c ss:=by
 have hgl:(AK c []).length=c.fams.length:=CL c;have hgm:∀g∈AK c [],1<=g.2/\g.2<=4:=fun g hg=>(FB hc [] _ (Nat.le_refl _) g hg).2;rw[mT hgm,hgl];unfold D1;by_cases h:ss.length=c.fams.length
 ·rw[decide_eq_true h,cg,cg];have hp:CD (AK c [])=EE (A5 c ss):=by rw[show EE (A5 c ss)=(c.fams.map Q9.size).sum from SU h];have:=RA (c:=c) c.fams.length (Nat.le_refl _);rw[bm]at this;exact this
  have hl:A5 c ss=(bb ss.length).map (AR (AK c []) ss):=by
   refine RP (by omega) (by rw[show(A5 c ss).length=c.fams.length from DL h,h]) fun j h1=>?_;have hj:j<c.fams.length:=by rwa [show(A5 c ss).length=c.fams.length from DL h]at h1
   have e:=I0 (k:=0) (fs:=c.fams) (ss:=ss) j hj (by omega) h1;rw[Nat.zero_add]at e;have hg:=fW hj (by rw[hgl];exact hj);unfold AR;rw[bj,bj,bk (by rw[hgl];exact hj),bk (by omega:j<ss.length)];simp only[dx,hg];exact e
  unfold HF;rw[hp,<-hl,Bool.and_comm]
 ·simp[h]
end Go.Wind
namespace Go.Proofs.Tryz.Op
def JU{α:Type}(l:List α):Bool:=!decide ((7:Int)<(l.length:Int))
def fZ(c:AQ):Bool:=(YE c.beach&&(JU c.plan&&(JU c.chairs&&!decide ((5:Int)<(c.fams.length:Int)))))&&(c.plan.all JU&&c.chairs.all JU)
theorem AA7{α:Type}{l:List α}:JU l=true↔l.length<=7:=by simp only[JU,cm,decide_eq_false_iff_not];omega
theorem ZJ{c:AQ}(h:fZ c=true):YE c.beach=true/\c.plan.length<=7/\c.chairs.length<=7/\c.fams.length<=5/\(∀l∈c.plan,l.length<=7)/\∀l∈c.chairs,l.length<=7:=by simp only[fZ,cq,AA7,List.all_eq_true,cm,decide_eq_false_iff_not]at h;exact⟨h.1.1,h.1.2.1,h.1.2.2.1,by omega,h.2.1,h.2.2⟩
theorem A29(c:AQ)(hl:c.plan.length<=100):∀(d k:Nat),k+d=c.plan.length->∃fr,BD fr 1=some (true,.ptr 0 1 0 0) /\
  ∀n m,d<m->BA (AE db ann kn (n+100) 55) ZX (ann 55 (BU ZX)) m ⟨1,[(1,true,.ptr 0 1 0 0),(3,true,i k)],⟨[],[(1,0,.box (AD c))]⟩⟩ =
   if (c.plan.drop k).all JU=true then some (.exit 0,⟨1,fr,⟨[],[(1,0,.box (AD c))]⟩⟩) else some (.ret,⟨1,[(2,true,.bool false)],⟨[],[]⟩⟩)
 |0,k,hk=>by
  have:k=c.plan.length:=by omega
  subst this;rw[cp];refine⟨?fr,?g1,fun n m hm=>?g2⟩;case g2=>
   obtain⟨m,rfl⟩:=qNz m (by omega)
   rw[AB]
   simp[AD]
   rfl
  case g1=>simp
 |d+1,k,hk=>by
  have hk':k<c.plan.length:=by omega
  have hw:=BJ (k:=k) (by omega);obtain⟨fr,e1,ih⟩:=A29 c hl d (k+1) (by omega);rw[bq hk',bh];refine⟨fr,e1,fun n m hm=>?_⟩;obtain⟨m,rfl⟩:=qNz m (by omega);have ih:=ih n m (by omega);have es:JU c.plan[k]=!decide ((7:Int)<(c.plan[k].length:Int)):=rfl;rw[es];generalize e1:decide ((7:Int)<(c.plan[k].length:Int))=z1;generalize (c.plan.drop (k+1)).all JU=z at ih|-;rw[AB];simp only[AD]at ih|-;cases z1<;>cases z<;>(simp at ih;simp[AZ,hk',hw,e1,ih])
theorem A3A(c:AQ)(hl:c.chairs.length<=100):∀(d k:Nat),k+d=c.chairs.length->∃fr,BD fr 1=some (true,.ptr 0 1 0 0) /\
  ∀n m,d<m->BA (AE db ann kn (n+100) 55) ZY (ann 55 (BU ZY)) m ⟨1,[(1,true,.ptr 0 1 0 0),(4,true,i k)],⟨[],[(1,0,.box (AD c))]⟩⟩ =
   if (c.chairs.drop k).all JU=true then some (.exit 2,⟨1,fr,⟨[],[(1,0,.box (AD c))]⟩⟩) else some (.ret,⟨1,[(2,true,.bool false)],⟨[],[]⟩⟩)
 |0,k,hk=>by
  have:k=c.chairs.length:=by omega
  subst this;rw[cp];refine⟨?fr,?g1,fun n m hm=>?g2⟩;case g2=>
   obtain⟨m,rfl⟩:=qNz m (by omega)
   rw[AB]
   simp[AD]
   rfl
  case g1=>simp
 |d+1,k,hk=>by
  have hk':k<c.chairs.length:=by omega
  have hw:=BJ (k:=k) (by omega);obtain⟨fr,e1,ih⟩:=A3A c hl d (k+1) (by omega);rw[bq hk',bh];refine⟨fr,e1,fun n m hm=>?_⟩;obtain⟨m,rfl⟩:=qNz m (by omega);have ih:=ih n m (by omega);have es:JU c.chairs[k]=!decide ((7:Int)<(c.chairs[k].length:Int)):=rfl;rw[es];generalize e1:decide ((7:Int)<(c.chairs[k].length:Int))=z1;generalize (c.chairs.drop (k+1)).all JU=z at ih|-;rw[AB];simp only[AD]at ih|-;cases z1<;>cases z<;>(simp at ih;simp[AS,hk',hw,e1,ih])
theorem ASW(n:Nat)(c:AQ):AY db kn (AE db ann kn (n+1400)) 18 [.agg (AD c)]=some (.bool (fZ c)):=by
 rw[AN rfl,AO Tryz.func18 b18 rfl (by simp[AD,AS,A6,AU])];have qT:=fun n=>BA1 n c.beach;unfold fZ;have es:JU c.plan=!decide ((7:Int)<(c.plan.length:Int)):=rfl;have et:JU c.chairs=!decide ((7:Int)<(c.chairs.length:Int)):=rfl;rw[es,et];generalize e1:decide ((7:Int)<(c.plan.length:Int))=z1;generalize e2:decide ((7:Int)<(c.chairs.length:Int))=z2;generalize e3:decide ((5:Int)<(c.fams.length:Int))=z3;generalize YE c.beach=z4 at *;simp only[AC]at qT;by_cases h:z4=true/\z1=false/\z2=false/\z3=false
 ·obtain⟨rfl,rfl,rfl,rfl⟩:=h;have h1:=of_decide_eq_false e1;have h2:=of_decide_eq_false e2;obtain⟨f1,g1,q1⟩:=A29 c (by omega) c.plan.length 0 (by omega);obtain⟨f2,g2,q2⟩:=A3A c (by omega) c.chairs.length 0 (by omega);have q1:=fun n m=>q1 n (m+100) (by omega);have q2:=fun n m=>q2 n (m+100) (by omega);rw[cx]at q1 q2;generalize c.plan.all JU=y1 at *;generalize c.chairs.all JU=y2 at *;simp only[AD]at q1 q2|-;cases y1<;>cases y2<;>(simp at q1 q2;simp[c18,AF,qT,e1,e2,e3,q1,q2,g1])
 ·simp only[AD]at|-;cases z4<;>cases z1<;>cases z2<;>cases z3<;>first|exact absurd ⟨rfl,rfl,rfl,rfl⟩ h|simp[c18,AF,qT,e1,e2,e3]
theorem A3B{k:Nat}(hk:k<=100000)(q g n:Nat):B5 db 22 k [[.vec 0 q g n]]=true:=by rw[BZ (by simp) (by simp)];simp[maxLen];omega
theorem AKO(l k:Nat)(o:Option (Nat×A1))(ls:List (List Int)):(ls.map AZ).map (dz (BL l k o 3))=ls.map AZ:=by rw[ck];exact bf fun x _=>rfl
theorem A3C(ls:List (List Int)):(ls.map AZ).map (dz sJ)=ls.map AZ:=by rw[ck];exact bf fun x _=>rfl
theorem VU(k γ:Nat)(h:List V)(t:List (List V)):pv k γ (h::t)=.vec 0 k γ (t.length+1):=rfl
theorem slN:sl []=.nil:=rfl
theorem slC(e:List V)(es:List (List V)):sl (e::es)=.list false (e::es):=rfl
theorem ASX(ls:List (List Int))(h1:ls.length<=100)(h2:∀l∈ls,l.length<=100):∀(d k c γ:Nat),k+d=ls.length->∃fr c' γ',fr=[(8,true,V.bool false),(7,true,i ls.length),(6,true,FO ls),(5,true,i ls.length),(0,true,FO ls),(3,true,pv 18 γ' (ls.map AZ)),(4,true,i ls.length)]/\∀n m,d<m->BA (AE db ann kn (n+200) 20) ZZ (ann 20 (BU ZZ)) m ⟨c,[(0,true,FO ls),(3,true,pv 18 γ ((ls.take k).map AZ)),(4,true,i k)],⟨[],pl 18 γ 22 ((ls.take k).map AZ)⟩⟩ =
  some (.exit 0,⟨c',fr,⟨[],pl 18 γ' 22 (ls.map AZ)⟩⟩)
 |0,k,c,γ,hk=>by
  have:k=ls.length:=by omega
  subst this;rw[bm];refine⟨_,c,γ,rfl,fun n m hm=>?_⟩;obtain⟨m,rfl⟩:=qNz m (by omega);rw[AB];simp
 |d+1,k,c,γ,hk=>by
  have hk':k<ls.length:=by omega
  have hw:=BJ (k:=k) (by omega);have h3:=h2 _ (bw hk');have hst:(ls.take (k+1)).map AZ=(ls.take k).map AZ++[AZ ls[k]]:=by rw[bx hk',bg];rfl
  have hRl:((ls.take k).map AZ).length=k:=by rw[cd,bn];omega
  have hto:=fun o=>AKO 0 16 o (ls.take k);have hR1:∀e∈(ls.take k).map AZ,e.length=1:=fun e he=>by obtain⟨l,_,rfl⟩:=bp.1 he;rfl
  have hwk:=A3C (ls.take k);have ha:=fun q g n=>A3B (k:=((ls.take k).map AZ).length) (by omega) q g n;have hai:=BAX (k:=0) (l:=ls[k]) (by omega);generalize hLk:ls[k]=L at *;cases L with
  |nil=>
   obtain⟨fr,c',γ',e1,ih⟩:=ASX ls h1 h2 d (k+1) (c+1+1) (c+1) (by omega)
   refine⟨fr,c',γ',e1,fun n m hm=>?_⟩
   obtain⟨m,rfl⟩:=qNz m (by omega)
   have ih:=ih n m (by omega)
   rw[hst]at ih
   generalize ls.map AZ=fin at *
   generalize (ls.take k).map AZ=R at *
   rw[AB]
   simp at hai
   cases R with
   |nil=>simp[AZ,li,VU]at ih ha;simp[show c+1+1=c+2 from rfl,hk',hw,hLk,AZ,ha,hai,ih]
   |cons r R=>
    have hR2:=hR1 r (by simp)
    have hR3:=eq_true (fun e he=>hR1 e (bz r he):∀e∈R,e.length=1)
    simp[AZ,li,VU]at ih ha hto hwk
    simp[show c+1+1=c+2 from rfl,hk',hw,hLk,AZ,ha,hai,ih,hto,hwk,hR2,hR3,VU]
  |cons x L=>
   obtain⟨fr,c',γ',e1,ih⟩:=ASX ls h1 h2 d (k+1) (c+1+1) (c+1) (by omega)
   refine⟨fr,c',γ',e1,fun n m hm=>?_⟩
   obtain⟨m,rfl⟩:=qNz m (by omega)
   have ih:=ih n m (by omega)
   rw[hst]at ih
   generalize ls.map AZ=fin at *
   generalize (ls.take k).map AZ=R at *
   rw[AB]
   simp[AX]at hai
   cases R with
   |nil=>simp[AZ,AX,li,VU]at ih ha;simp[show c+1+1=c+2 from rfl,hk',hw,hLk,AZ,AX,ha,hai,ih]
   |cons r R=>
    have hR2:=hR1 r (by simp)
    have hR3:=eq_true (fun e he=>hR1 e (bz r he):∀e∈R,e.length=1)
    simp[AZ,AX,li,VU]at ih ha hto hwk
    simp[show c+1+1=c+2 from rfl,hk',hw,hLk,AZ,AX,ha,hai,ih,hto,hwk,hR2,hR3,VU]
theorem AKP(n:Nat)(ls:List (List Int))(h1:ls.length<=100)(h2:∀l∈ls,l.length<=100):AY db kn (AE db ann kn (n+400)) 69 [FO ls]=some (sl (ls.map AZ)):=by rw[AN rfl,AO Tryz.func69 b69 rfl (by simp)];obtain⟨fr,c',γ',e1,q⟩:=ASX ls h1 h2 ls.length 0 0 0 (by omega);have q:=fun n m=>q n (m+200) (by omega);simp at q e1;simp[c69,AF,q,e1]
theorem AKQ(o:Option (Nat×A1))(ss:List (Int×Int)):(ss.map AJ).map (dz (BL 0 16 o 3))=ss.map AJ:=by rw[ck];exact bf fun x _=>rfl
theorem A3E(ss:List (Int×Int)):(ss.map AJ).map (dz sJ)=ss.map AJ:=by rw[ck];exact bf fun x _=>rfl
theorem APL(l k a b c n:Nat):BL l k none 3 (.vec a b c n)=.vec a b c n:=rfl
theorem wkI(n:Int):sJ (i n)=i n:=rfl
theorem A3F(ss:List (Int×Int))(h1:ss.length<=100):∀(d k c γ:Nat),k+d=ss.length->∃fr c' γ',fr=[(8,true,V.bool false),(7,true,i ss.length),(6,true,.list false (ss.map AJ)),(5,true,i ss.length),(0,true,.list false (ss.map AJ)),(3,true,pv 18 γ' (ss.map AJ)),(4,true,i ss.length)]/\∀n m,d<m->BA (AE db ann kn (n+200) 20) Z0 (ann 20 (BU Z0)) m ⟨c,[(0,true,.list false (ss.map AJ)),(3,true,pv 18 γ ((ss.take k).map AJ)),(4,true,i k)],⟨[],pl 18 γ 86 ((ss.take k).map AJ)⟩⟩ =
  some (.exit 0,⟨c',fr,⟨[],pl 18 γ' 86 (ss.map AJ)⟩⟩)
 |0,k,c,γ,hk=>by
  have:k=ss.length:=by omega
  subst this;rw[bm];refine⟨_,c,γ,rfl,fun n m hm=>?_⟩;obtain⟨m,rfl⟩:=qNz m (by omega);rw[AB];simp
 |d+1,k,c,γ,hk=>by
  have hk':k<ss.length:=by omega
  have hw:=BJ (k:=k) (by omega);have hst:(ss.take (k+1)).map AJ=(ss.take k).map AJ++[AJ ss[k]]:=by rw[bx hk',bg];rfl
  have hRl:((ss.take k).map AJ).length=k:=by rw[cd,bn];omega
  have hR1:∀e∈(ss.take k).map AJ,e.length=2:=fun e he=>by obtain⟨l,_,rfl⟩:=bp.1 he;rfl
  have hto:=AKQ none (ss.take k);have hwk:=A3E (ss.take k);have happ:=BBC (k:=((ss.take k).map AJ).length) (x:=ss[k]) (by omega);have q:=fun n=>AJW n ss[k];obtain⟨fr,c',γ',e1,ih⟩:=A3F ss h1 d (k+1) (c+1) c (by omega);refine⟨fr,c',γ',e1,fun n m hm=>?_⟩;obtain⟨m,rfl⟩:=qNz m (by omega);have ih:=ih n m (by omega);rw[hst]at ih;generalize (ss.take k).map AJ=R at *;rw[AB];simp[AJ]at q;cases R with
  |nil=>simp[AJ,VU]at ih happ;simp[-ck,hk',hw,AJ,q,happ,ih,APL,wkI]
  |cons r R=>
   have hR2:=hR1 r (by simp)
   have hR3:=eq_true (fun e he=>hR1 e (bz r he):∀e∈R,e.length=2)
   simp[AJ,VU,-ck]at ih happ hto hwk
   simp[-ck,hk',hw,AJ,VU,q,happ,ih,hR2,hR3,APL,wkI,hto,hwk]
theorem AKR(n:Nat)(ss:List (Int×Int))(h1:ss.length<=100):AY db kn (AE db ann kn (n+400)) 22 [.list false (ss.map AJ)]=some (sl (ss.map AJ)):=by
 rw[AN rfl,AO Tryz.func22 b22 rfl (by simp)];obtain⟨fr,c',γ',e1,q⟩:=A3F ss h1 ss.length 0 0 0 (by omega);have q:=fun n m=>q n (m+200) (by omega);have hcl:∀e∈ss.map AJ,∀v∈e,AG 8 v=true:=fun e he v hv=>by obtain⟨l,_,rfl⟩:=bp.1 he;simp only[AJ,dj,cw,or_false]at hv;rcases hv with rfl|rfl<;>rfl
 generalize ss.map AJ=R at *;simp at q e1;simp[c22,AF,q,e1];exact hcl
theorem A3G{k:Nat}{g:Nat×Int}(h:k<=1000):B5 db 135 k [[i (g.1:Int),i g.2]]=true:=by rw[BZ (by simp) (by simp)];simp[maxLen];omega
theorem AA8{x N j:Nat}:((j:Int)∈G4 x N)↔j<N/\x.testBit j=true:=by
 unfold G4;rw[bp];constructor
 ·rintro ⟨i,hi,e⟩;rw[List.mem_filter,cn]at hi;have:i=j:=by omega
  subst this;exact hi
 ·intro h;exact⟨j,by rw[List.mem_filter,cn];exact h,rfl⟩
theorem AEB(x j:Nat):decide ((((x / 2 ^ j:Nat):Int).tmod 2)=0)=!x.testBit j:=by rw[<-AMU];have h:=Int.tmod_eq_emod_of_nonneg (a:=((x / 2 ^ j:Nat):Int)) (b:=2) (Int.natCast_nonneg _);rw[h];rcases Int.emod_two_eq ((x / 2 ^ j:Nat):Int)with h|h<;>rw[h]<;>rfl
def JY(c:AQ)(x:Nat):List (Nat×Int):=AK c (G4 x c.fams.length)
theorem ASY(c:AQ)(hl:c.fams.length<=30)(x:Nat):∀(d k g γ:Nat),k+d=c.fams.length->0<g->∃g' γ' fr,BD fr 5=some (true,pv 30 γ' ((JY c x).map A2)) /\
  ∀n m,d<m->BA (AE db ann kn (n+100) 32) Z1 (ann 32 (BU Z1)) m ⟨g,[(1,true,i x),(2,true,.ptr 0 2 0 0),(5,true,pv 30 γ ((B0 c.fams (G4 x c.fams.length) k).map A2)),(6,true,i k)],⟨[],(2,0,.box (AD c))::pl 30 γ 135 ((B0 c.fams (G4 x c.fams.length) k).map A2)⟩⟩ =
   some (.exit 0,⟨g',fr,⟨[],(2,0,.box (AD c))::pl 30 γ' 135 ((JY c x).map A2)⟩⟩)
 |0,k,g,γ,hk,hg=>by
  obtain rfl:k=c.fams.length:=by omega
  have e:B0 c.fams (G4 x c.fams.length) c.fams.length=JY c x:=rfl;rw[e];generalize JY c x=R;refine⟨g,γ,?fr,?g1,fun n m hm=>?g2⟩;case g2=>
   obtain⟨m,rfl⟩:=qNz m (by omega)
   rw[AB]
   simp[AD]
   rfl
  case g1=>simp
 |d+1,k,g,γ,hk,hg=>by
  have hk':k<c.fams.length:=by omega
  have hw:=BJ (k:=k) (by omega);have hgl:=OR c.fams (G4 x c.fams.length) k;have hf:c.fams.getD k ⟨0,0,false,false⟩=c.fams[k]:=by rw[bj,bk hk'];rfl
  have hst:B0 c.fams (G4 x c.fams.length) (k+1)=B0 c.fams (G4 x c.fams.length) k++(if decide ((k:Int)∈G4 x c.fams.length)=true then[] else[(k,c.fams[k].size)]):=by rw[<-hf];rfl
  have hin:decide ((k:Int)∈G4 x c.fams.length)=x.testBit k:=by rw[Bool.eq_iff_iff,decide_eq_true_eq,AA8];exact⟨fun h=>h.2,fun h=>⟨hk',h⟩⟩
  have happ:=A3G (k:=(B0 c.fams (G4 x c.fams.length) k).length) (g:=(k,c.fams[k].size)) (by omega);have e1:=AX5 (x:=x) (j:=k) (by omega);have e2:=ADH (p:=k) (by omega);have hb:=AEB x k;rw[hin]at hst;have hp1:Nat.beq 2 1=false:=rfl;generalize ((x / 2 ^ k:Nat):Int)=X at e1 hb;cases hbit:x.testBit k with
  |true=>
   rw[hbit]at hb hst
   rw[if_pos rfl,List.append_nil]at hst
   obtain⟨g',γ',fr,q1,ih⟩:=ASY c hl x d (k+1) g γ (by omega) hg
   refine⟨g',γ',fr,q1,fun n m hm=>?_⟩
   obtain⟨m,rfl⟩:=qNz m (by omega)
   have ih:=ih n m (by omega)
   rw[hst]at ih
   generalize B0 c.fams (G4 x c.fams.length) k=R at *
   rw[AB]
   simp only[AD]at ih|-
   simp at hb
   cases R<;>(simp at ih;simp[hk',hw,vY,e1,e2,-VQ,hb,ih])
  |false=>
   rw[hbit]at hb hst
   rw[if_neg (by decide)]at hst
   obtain⟨g',γ',fr,q1,ih⟩:=ASY c hl x d (k+1) (g+1) g (by omega) (by omega)
   refine⟨g',γ',fr,q1,fun n m hm=>?_⟩
   obtain⟨m,rfl⟩:=qNz m (by omega)
   have ih:=ih n m (by omega)
   rw[hst]at ih
   generalize B0 c.fams (G4 x c.fams.length) k=R at *
   rw[AB]
   simp only[AD]at ih|-
   simp at hb
   cases R with
   |nil=>simp[A2,VU]at ih happ;simp[hk',hw,vY,e1,e2,-VQ,hb,happ,AU,ih]
   |cons r R=>simp[A2,VU]at ih happ;simp[hk',hw,vY,e1,e2,-VQ,hb,happ,AU,A2,VU,ih]
theorem AEC(n:Nat)(c:AQ)(hl:c.fams.length<=30)(x:Nat):AY db kn (AE db ann kn (n+200)) 26 [.agg (AD c),i x]=some (sl ((JY c x).map A2)):=by
 rw[AN rfl,AO Tryz.func26 b26 rfl (by simp[AD,AS,A6,AU])];obtain⟨g',γ',fr,e1,q⟩:=ASY c hl x c.fams.length 0 1 0 (by omega) (by omega);have q:=fun n m=>q n (m+100) (by omega);have e0:B0 c.fams (G4 x c.fams.length) 0=[]:=rfl;rw[e0]at q;have hcl:∀e∈(JY c x).map A2,∀v∈e,AG 8 v=true:=fun e he v hv=>by obtain⟨l,_,rfl⟩:=bp.1 he;simp only[A2,dj,cw,or_false]at hv;rcases hv with rfl|rfl<;>rfl
 generalize (JY c x).map A2=R at *;simp only[AD]at q|-;simp at q e1;simp[c26,AF,q,e1];exact hcl
theorem P7{G:List (Nat×Int)}{ss:List (Int×Int)}{j q:Nat}(h:q<j):AR G (ss.take j) q=AR G ss q:=by unfold AR;rw[bj,bj,bj,List.getElem?_take_of_lt h]
theorem RQ{c:AQ}{G:List (Nat×Int)}{ss:List (Int×Int)}{t:Nat}:FQ c G (ss.take (t+1)) t=FQ c G ss t:=by
 unfold FQ;rw[P7 (by omega)];congr 1;have:∀l:List Nat,(∀q∈l,q<t)->l.all (fun q=>SY c (AR G ss t) (AR G (ss.take (t+1)) q))=l.all fun q=>SY c (AR G ss t) (AR G ss q):=fun l hl=>by
  induction l with
  |nil=>rfl
  |cons x l ih=>rw[bh,bh,ih fun y hy=>hl y (by simp[hy]),P7 (by have:=hl x (by simp);omega)]
 exact this _ fun q hq=>cn.1 hq
theorem mU{s:St}(l:List (Int×Int)){j:Nat}(hj:j<=l.length):CR db s 24 (.list false (l.map AJ)) none (some (i j)) none=some (.list false ((l.map AJ).take j)):=by have:=dZ (P:=db) (s:=s) (T:=24) (e:=59) (es:=l.map AJ) (h:=(j:Int)) (b:=false) (by kernel_rfl) (by simp) (by omega) (by rw[cd];omega);simpa using this
theorem A3H(c:AQ)(h1:0<=c.beach.rows/\c.beach.rows<=1000)(h2:0<=c.beach.places/\c.beach.places<=1000)(G:List (Nat×Int))(ss:List (Int×Int))(hG:ss.length=G.length)(hs:ss.length<=100)(hf:∀g∈G,g.1<c.fams.length/\0<=g.2/\g.2<=4):∀(d k:Nat),k+d=ss.length->(∀q,q<k->FQ c G ss q=true)->∃fr,
  ∀n m,d<m->BA (AE db ann kn (n+1200) 34) Z2 (ann 34 (BU Z2)) m ⟨1,[(1,true,.list false (G.map A2)),(2,true,.list false (ss.map AJ)),(3,true,.ptr 0 3 0 0),(7,true,i k)],⟨[],[(3,0,.box (AD c))]⟩⟩ =
   if ((bb ss.length).drop k).all (FQ c G ss)=true then some (.exit 0,⟨1,fr,⟨[],[(3,0,.box (AD c))]⟩⟩) else some (.ret,⟨1,[(6,true,.bool false)],⟨[],[]⟩⟩)
 |0,k,hd,_=>by
  obtain rfl:k=ss.length:=by omega
  rw[cj (by rw[bc];omega)];refine⟨?fr,fun n m hm=>?g9⟩;case g9=>
   obtain⟨m,rfl⟩:=qNz m (by omega)
   rw[AB]
   simp[AD]
   rfl
 |d+1,k,hd,hok=>by
  have hk:k<ss.length:=by omega
  have hw:=BJ (k:=k) (by omega);have qsl:=fun s=>mU (s:=s) ss (show k+1<=ss.length by omega);have hlt:(ss.take (k+1)).length=k+1:=by rw[bn];omega
  have hp:∀q,q<k->0<=(AR G (ss.take (k+1)) q).place/\(AR G (ss.take (k+1)) q).place<=1000:=fun q hq=>by
   rw[P7 (by omega)];have h:=hok q hq;simp only[FQ,C4,cq,C6]at h;have hg:q<G.length:=by omega
   have hsz:0<=(AR G ss q).size:=by simp only[AR,bj,bk hg,dx];exact(hf _ (bw hg)).2.1
   omega
  have qS:=fun n=>APK n c h1 h2 G (ss.take (k+1)) k (by rw[hlt];omega) (by rw[hlt]) (by rw[hlt];omega) hf hp;rw[RQ]at qS;rw[bq (by rw[bc];omega),bh,cz];cases hz:FQ c G ss k with
  |false=>
   rw[hz]at qS
   refine⟨[],fun n m hm=>?_⟩
   obtain⟨m,rfl⟩:=qNz m (by omega)
   rw[AB]
   simp only[AD]at qS|-
   simp[<-dk]at qsl
   simp[<-dk,hk,hw,qsl,qS,A2,AS,A6,AU,ZH,GU]
  |true=>
   rw[hz]at qS
   obtain⟨fr,ih⟩:=A3H c h1 h2 G ss hG hs hf d (k+1) (by omega) (fun q hq=>by
    by_cases e:q=k
    ·rw[e];exact hz
    ·exact hok q (by omega))
   refine⟨fr,fun n m hm=>?_⟩
   obtain⟨m,rfl⟩:=qNz m (by omega)
   have ih:=ih n m (by omega)
   generalize ((bb ss.length).drop (k+1)).all (FQ c G ss)=z at ih|-
   rw[AB]
   simp only[AD]at qS ih|-
   simp[<-dk]at qsl
   cases z<;>(simp at ih;simp[<-dk,hk,hw,qsl,qS,A2,AS,A6,AU,ZH,GU,ih])
theorem sW(n:Nat)(c:AQ)(h1:0<=c.beach.rows/\c.beach.rows<=1000)(h2:0<=c.beach.places/\c.beach.places<=1000)(hch:c.chairs.length<=100)(hcr:∀l∈c.chairs,l.length<=100)(G:List (Nat×Int))(hG:G.length<=100)(ss:List (Int×Int))(hf:∀g∈G,g.1<c.fams.length/\0<=g.2/\g.2<=4):AY db kn (AE db ann kn (n+1600)) 25 [.agg (AD c),.list false (G.map A2),.list false (ss.map AJ)]=some (.bool (FS c G ss)):=by
 rw[AN rfl,AO Tryz.func25 b25 rfl (by simp[AD,AS,A6,AU,A2])];have qP:=fun n=>wV n G hG (fun g hg=>(hf g hg).2);have qC:=fun n=>mR n c hch hcr;unfold FS;by_cases hl:ss.length=G.length
 ·have hl':(ss.length:Int)=(G.length:Int):=by omega
  obtain⟨fr,q⟩:=A3H c h1 h2 G ss hl (by omega) hf ss.length 0 (by omega) (fun q hq=>by omega);have q:=fun n m=>q n (m+101) (by omega);rw[cx]at q;rw[decide_eq_true hl,cg];generalize (bb ss.length).all (FQ c G ss)=z at *;generalize CD G=PG at *;generalize CP c=CN at *;by_cases hp:PG<=(CN:Int)
  ·have hp':¬(CN:Int)<PG:=by omega
   rw[decide_eq_true hp,cg];simp only[AD]at q qP qC|-;cases z<;>(simp at q;simp[c25,AF,hl',qP,qC,hp',q,AS,A6,AU])
  ·have hp':(CN:Int)<PG:=by omega
   rw[decide_eq_false hp,ct];simp only[AD]at q qP qC|-;simp[c25,AF,hl',qP,qC,hp',AS,A6,AU]
 ·have hl':¬(ss.length:Int)=(G.length:Int):=by omega
  rw[decide_eq_false hl,ct];simp only[AD]at qP qC|-;simp[c25,AF,hl',jB]
theorem AKS(l k:Nat)(o:Option (Nat×A1))(ls:List (List Bool)):(ls.map AS).map (dz (BL l k o 3))=ls.map AS:=by rw[ck];exact bf fun x _=>rfl
theorem A3I(ls:List (List Bool)):(ls.map AS).map (dz sJ)=ls.map AS:=by rw[ck];exact bf fun x _=>rfl
theorem S0{P:Program}{fr:Fr}{s:St}(e d c:Nat)(ys:List (List V))(h:B5 P e 0 ys=true):adV P e d c fr s .nil ys=some (⟨c+1,(d,true,.vec s.up.length d c ys.length)::fr,s.put s.up.length d c (.vec e ys)⟩,[(s.up.length,d),(s.up.length,d+MO)]):=by unfold adV;simp[I9,h]
theorem A3J{k:Nat}{l:List Bool}(h:k+l.length<=100000):B5 db 4 k (l.map A6)=true:=by rw[BZ (by simp) (by simp)];simp[maxLen,A6];omega
theorem A3K{k:Nat}(hk:k<=100000)(q g n:Nat):B5 db 97 k [[.vec 0 q g n]]=true:=by rw[BZ (by simp) (by simp)];simp[maxLen];omega
theorem A3L{k:Nat}{l:List Q9}(h:k+l.length<=100000):B5 db 94 k (l.map AU)=true:=by rw[BZ (by simp) (by simp)];simp[maxLen,AU];omega
abbrev bxC(b:AL)(p:List (List Int))(v w:V):A1:=.box (IU b++[sl (p.map AZ),v,w])
theorem ASZ(c:AQ)(h1:c.chairs.length<=100)(h2:∀l∈c.chairs,l.length<=100)(cs2:List V)(hcs:∀o,cs2.map (BL 0 28 o 3)=cs2):∀(d k g γ:Nat),k+d=c.chairs.length->2<g->∃g' γ',g<=g'/\∀n m,d<m->BA (AE db ann kn (n+200) 59) aK (ann 59 (BU aK)) m ⟨g,[(1,true,.ptr 0 1 0 0),(2,true,.ptr 0 2 1 0),(3,true,.ptr 0 3 2 0),(4,true,i k)],⟨[],(1,0,.box (AD c))::(2,1,.box cs2)::(3,2,bxC c.beach c.plan (pv 30 γ ((c.chairs.take k).map AS)) .nil)::pl 30 γ 97 ((c.chairs.take k).map AS)⟩⟩ =
  some (.exit 0,⟨g',[(18,true,.bool false),(17,true,i c.chairs.length),(16,true,.list false (c.chairs.map AS)),(15,true,.ptr 0 1 0 10),(14,true,i c.chairs.length),(1,true,.ptr 0 1 0 0),(2,true,.ptr 0 2 1 0),(3,true,.ptr 0 3 2 0),(4,true,i c.chairs.length)],⟨[],(1,0,.box (AD c))::(2,1,.box cs2)::(3,2,bxC c.beach c.plan (pv 30 γ' (c.chairs.map AS)) .nil)::pl 30 γ' 97 (c.chairs.map AS)⟩⟩)
 |0,k,g,γ,hk,hg=>by
  have:k=c.chairs.length:=by omega
  subst this;rw[bm];refine⟨g,γ,Nat.le_refl _,fun n m hm=>?_⟩;obtain⟨m,rfl⟩:=qNz m (by omega);rw[AB];simp only[AD,bxC,IU];cases c.chairs<;>simp
 |d+1,k,g,γ,hk,hg=>by
  have hk':k<c.chairs.length:=by omega
  have hw:=BJ (k:=k) (by omega);have h3:=h2 _ (bw hk');have hst:(c.chairs.take (k+1)).map AS=(c.chairs.take k).map AS++[AS c.chairs[k]]:=by rw[bx hk',bg];rfl
  have hRl:((c.chairs.take k).map AS).length=k:=by rw[cd,bn];omega
  have hto:=fun o=>AKS 0 28 o (c.chairs.take k);have hwk:=A3I (c.chairs.take k);have hR1:∀e∈(c.chairs.take k).map AS,e.length=1:=fun e he=>by obtain⟨l,_,rfl⟩:=bp.1 he;rfl
  have ha:=fun q g n=>A3K (k:=((c.chairs.take k).map AS).length) (by omega) q g n;have hai:=A3J (k:=0) (l:=c.chairs[k]) (by omega);generalize hLk:c.chairs[k]=L at *;cases L with
  |nil=>
   obtain⟨g',γ',hgg,ih⟩:=ASZ c h1 h2 cs2 hcs d (k+1) (g+1+1) (g+1) (by omega) (by omega)
   refine⟨g',γ',by omega,fun n m hm=>?_⟩
   obtain⟨m,rfl⟩:=qNz m (by omega)
   have ih:=ih n m (by omega)
   rw[hst]at ih
   generalize (c.chairs.take k).map AS=R at *
   rw[AB]
   simp only[AD,bxC,IU]at ih|-
   simp at hai
   cases R with
   |nil=>simp[AS,lb,VU]at ih ha;simp[show g+1+1=g+2 from rfl,hk',hw,hLk,AS,ha,hai,hcs,ih,MO,S0,CI,B7,MP,JO,show 2<g+2 by omega]
   |cons r R=>
    have hR2:=hR1 r (by simp)
    have hR3:=eq_true (fun e he=>hR1 e (bz r he):∀e∈R,e.length=1)
    simp[AS,lb,VU]at ih ha hto hwk
    simp[show g+1+1=g+2 from rfl,hk',hw,hLk,AS,ha,hai,hcs,ih,hto,hwk,hR2,hR3,VU,MO,S0,CI,B7,MP,JO,show 2<g+2 by omega]
  |cons x L=>
   obtain⟨g',γ',hgg,ih⟩:=ASZ c h1 h2 cs2 hcs d (k+1) (g+1+1) (g+1) (by omega) (by omega)
   refine⟨g',γ',by omega,fun n m hm=>?_⟩
   obtain⟨m,rfl⟩:=qNz m (by omega)
   have ih:=ih n m (by omega)
   rw[hst]at ih
   generalize (c.chairs.take k).map AS=R at *
   rw[AB]
   simp only[AD,bxC,IU]at ih|-
   simp[A6]at hai
   cases R with
   |nil=>simp[AS,A6,lb,VU]at ih ha;simp[show g+1+1=g+2 from rfl,hk',hw,hLk,AS,A6,ha,hai,hcs,ih,MO,S0,CI,B7,MP,JO,show 2<g+2 by omega]
   |cons r R=>
    have hR2:=hR1 r (by simp)
    have hR3:=eq_true (fun e he=>hR1 e (bz r he):∀e∈R,e.length=1)
    simp[AS,A6,lb,VU]at ih ha hto hwk
    simp[show g+1+1=g+2 from rfl,hk',hw,hLk,AS,A6,ha,hai,hcs,ih,hto,hwk,hR2,hR3,VU,MO,S0,CI,B7,MP,JO,show 2<g+2 by omega]
theorem A3M(c:AQ)(h1:c.fams.length<=100)(cs2:List V)(γ3:Nat)(R:List (List V)):∀(d k g γ:Nat),k+d=c.fams.length->2<g->∃g' γ',g<=g'/\∀n m,d<m->BA (AE db ann kn (n+200) 59) aL (ann 59 (BU aL)) m ⟨g,[(1,true,.ptr 0 1 0 0),(2,true,.ptr 0 2 1 0),(3,true,.ptr 0 3 2 0),(5,true,i k)],⟨[],(1,0,.box (AD c))::(2,1,.box cs2)::(3,2,bxC c.beach c.plan (pv 30 γ3 R) (pv 56 γ ((c.fams.take k).map AU)))::(pl 30 γ3 97 R++pl 56 γ 94 ((c.fams.take k).map AU))⟩⟩ =
  some (.exit 2,⟨g',[(36,true,.bool false),(35,true,i c.fams.length),(34,true,.list false (c.fams.map AU)),(33,true,.ptr 0 1 0 11),(32,true,i c.fams.length),(1,true,.ptr 0 1 0 0),(2,true,.ptr 0 2 1 0),(3,true,.ptr 0 3 2 0),(5,true,i c.fams.length)],⟨[],(1,0,.box (AD c))::(2,1,.box cs2)::(3,2,bxC c.beach c.plan (pv 30 γ3 R) (pv 56 γ' (c.fams.map AU)))::(pl 30 γ3 97 R++pl 56 γ' 94 (c.fams.map AU))⟩⟩)
 |0,k,g,γ,hk,hg=>by
  have:k=c.fams.length:=by omega
  subst this;rw[bm];refine⟨g,γ,Nat.le_refl _,fun n m hm=>?_⟩;obtain⟨m,rfl⟩:=qNz m (by omega);rw[AB];simp only[AD,bxC,IU];cases R<;>cases c.fams<;>simp
 |d+1,k,g,γ,hk,hg=>by
  have hk':k<c.fams.length:=by omega
  have hw:=BJ (k:=k) (by omega);have hst:(c.fams.take (k+1)).map AU=(c.fams.take k).map AU++[AU c.fams[k]]:=by rw[bx hk',bg];rfl
  have hRl:((c.fams.take k).map AU).length=k:=by rw[cd,bn];omega
  have hS1:∀e∈(c.fams.take k).map AU,e.length=4:=fun e he=>by obtain⟨l,_,rfl⟩:=bp.1 he;rfl
  have ha:=A3L (k:=((c.fams.take k).map AU).length) (l:=[c.fams[k]]) (by rw[hRl];simp;omega);obtain⟨g',γ',hgg,ih⟩:=A3M c h1 cs2 γ3 R d (k+1) (g+1+1) (g+1) (by omega) (by omega);refine⟨g',γ',by omega,fun n m hm=>?_⟩;obtain⟨m,rfl⟩:=qNz m (by omega);have ih:=ih n m (by omega);rw[hst]at ih;generalize (c.fams.take k).map AU=S at *;generalize hLk:c.fams[k]=f at *;rw[AB];simp only[AD,bxC,IU]at ih|-;cases S with
  |nil=>cases R<;>(simp[AU,VU]at ih ha;simp[hk',hw,hLk,AU,VU,ha,ih,show 0<g by omega])
  |cons q S=>
   have hS2:=hS1 q (by simp)
   have hS3:=eq_true (fun e he=>hS1 e (bz q he):∀e∈S,e.length=4)
   cases R<;>(simp[AU,VU]at ih ha;simp[hk',hw,hLk,AU,VU,ha,ih,hS2,hS3,show 0<g by omega])
def S4(c:AQ):List V:=IU c.beach++[sl (c.plan.map AZ),sl (c.chairs.map AS),sl (c.fams.map AU)]
theorem AS0(n:Nat)(c:AQ)(ht:fZ c=true):AY db kn (AE db ann kn (n+900)) 21 [.agg (AD c)]=some (.agg (S4 c)):=by
 rw[AN rfl,AO Tryz.func21 b21 rfl (by simp[AD,AS,A6,AU])];obtain⟨t1,t2,t3,t4,t5,t6⟩:=ZJ ht;simp only[YE,cq,cm,Bool.or_eq_false_iff,Bool.not_eq_false',decide_eq_false_iff_not]at t1;obtain⟨⟨⟨⟨⟨u1,u2⟩,u3⟩,u4⟩,u5⟩,_⟩:=t1;obtain⟨u6,u7⟩:=XH u3;have qB:=fun n=>AYB n c.beach (by omega) (by omega) (by omega) (fun l hl=>by have:=u7 l hl;omega) (by omega) (by omega);have qL:=fun n=>AKP n c.plan (by omega) (fun l hl=>by have:=t5 l hl;omega);have hz:∀o,([i 0,i 0,i 0,i 0,.nil,.nil,.nil,.nil,.nil,.nil,.nil,.nil]:List V).map (BL 0 28 o 3)=[i 0,i 0,i 0,i 0,.nil,.nil,.nil,.nil,.nil,.nil,.nil,.nil]:=fun o=>rfl;obtain⟨g1,γ1,h1,q1⟩:=ASZ c (by omega) (fun l hl=>by have:=t6 l hl;omega) _ hz c.chairs.length 0 3 0 (by omega) (by omega);obtain⟨g2,γ2,h2,q2⟩:=A3M c (by omega) [i 0,i 0,i 0,i 0,.nil,.nil,.nil,.nil,.nil,.nil,.nil,.nil] γ1 (c.chairs.map AS) c.fams.length 0 g1 0 (by omega) (by omega);have q1:=fun n m=>q1 n (m+100) (by omega);have q2:=fun n m=>q2 n (m+100) (by omega);rw[show(c.chairs.take 0).map AS=[] from rfl]at q1;rw[show(c.fams.take 0).map AU=[] from rfl]at q2;have hg2:1<g2:=by omega
 have c1:∀e∈c.chairs.map AS,∀v∈e,AG 7 v=true:=fun e he v hv=>by obtain⟨l,_,rfl⟩:=bp.1 he;simp only[AS,dj,cw,or_false]at hv;subst hv;simp[A6]
 have c2:∀e∈c.fams.map AU,∀v∈e,AG 7 v=true:=fun e he v hv=>by obtain⟨l,_,rfl⟩:=bp.1 he;simp only[AU,dj,cw,or_false]at hv;rcases hv with rfl|rfl|rfl|rfl<;>rfl
 unfold S4;simp only[AD,AC,bxC,IU]at q1 q2 qB qL|-;generalize c.chairs.map AS=R at *;generalize c.fams.map AU=S at *;cases R with
 |nil=>
  cases S with
  |nil=>
   simp at q1 q2
   simp[c21,AF,qB,qL,q1,q2,hg2,slN]
  |cons t S=>
   have s1:=eq_true (c2 t (by simp))
   have s2:=eq_true (fun e he=>c2 e (bz t he):∀e∈S,∀v∈e,AG 7 v=true)
   simp[VU]at q1 q2
   simp[c21,AF,qB,qL,q1,q2,s1,s2,hg2,slN,slC]
 |cons r R=>
  have r1:=eq_true (c1 r (by simp))
  have r2:=eq_true (fun e he=>c1 e (bz r he):∀e∈R,∀v∈e,AG 7 v=true)
  cases S with
  |nil=>
   simp[VU]at q1 q2
   simp[c21,AF,qB,qL,q1,q2,r1,r2,hg2,slN,slC]
  |cons t S=>
   have s1:=eq_true (c2 t (by simp))
   have s2:=eq_true (fun e he=>c2 e (bz t he):∀e∈S,∀v∈e,AG 7 v=true)
   simp[VU]at q1 q2
   simp[c21,AF,qB,qL,q1,q2,r1,r2,s1,s2,hg2,slC]
theorem APM(c:AQ)(hl:c.chairs.length<=100):∀(d k:Nat),k+d=c.chairs.length->∃fr,BD fr 1=some (true,.ptr 0 1 0 0) /\
  ∀n m,d<m->BA (AE db ann kn (n+100) 76) UA (ann 76 (BU UA)) m ⟨1,[(1,true,.ptr 0 1 0 0),(4,true,i k)],⟨[],[(1,0,.box (AD c))]⟩⟩ =
   if (c.chairs.drop k).all (fun l=>decide ((l.length:Int)=c.beach.places))=true then some (.exit 0,⟨1,fr,⟨[],[(1,0,.box (AD c))]⟩⟩) else some (.ret,⟨1,[(2,true,i 1)],⟨[],[]⟩⟩)
 |0,k,hk=>by
  have:k=c.chairs.length:=by omega
  subst this;rw[cp];refine⟨?fr,?g1,fun n m hm=>?g2⟩;case g2=>
   obtain⟨m,rfl⟩:=qNz m (by omega)
   rw[AB]
   simp[AD]
   rfl
  case g1=>simp
 |d+1,k,hk=>by
  have hk':k<c.chairs.length:=by omega
  have hw:=BJ (k:=k) (by omega);obtain⟨fr,e1,ih⟩:=APM c hl d (k+1) (by omega);rw[bq hk',bh];refine⟨fr,e1,fun n m hm=>?_⟩;obtain⟨m,rfl⟩:=qNz m (by omega);have ih:=ih n m (by omega);generalize e1:decide ((c.chairs[k].length:Int)=c.beach.places)=z1;generalize (c.chairs.drop (k+1)).all (fun l=>decide ((l.length:Int)=c.beach.places))=z at ih|-;rw[AB];simp only[AD]at ih|-;cases z1<;>cases z<;>(simp at ih;simp[AS,hk',hw,e1,ih])
theorem APN(c:AQ)(hl:c.fams.length<=100):∀(d k:Nat),k+d=c.fams.length->∃fr,
  ∀n m,d<m->BA (AE db ann kn (n+200) 76) UB (ann 76 (BU UB)) m ⟨1,[(1,true,.ptr 0 1 0 0),(5,true,i k)],⟨[],[(1,0,.box (AD c))]⟩⟩ =
   if (c.fams.drop k).all K2=true then some (.exit 2,⟨1,fr,⟨[],[(1,0,.box (AD c))]⟩⟩) else some (.ret,⟨1,[(2,true,i 1)],⟨[],[]⟩⟩)
 |0,k,hk=>by
  have:k=c.fams.length:=by omega
  subst this;rw[cp];refine⟨?fr,fun n m hm=>?g2⟩;case g2=>
   obtain⟨m,rfl⟩:=qNz m (by omega)
   rw[AB]
   simp[AD]
   rfl
 |d+1,k,hk=>by
  have hk':k<c.fams.length:=by omega
  have hw:=BJ (k:=k) (by omega);obtain⟨fr,ih⟩:=APN c hl d (k+1) (by omega);rw[bq hk',bh];refine⟨fr,fun n m hm=>?_⟩;obtain⟨m,rfl⟩:=qNz m (by omega);have ih:=ih n m (by omega);have ef:K2 c.fams[k]=(F1 c.fams[k].size 1 4&&F1 c.fams[k].good 0 5):=rfl;have q1:=fun n=>kIn n c.fams[k].size 1 4;have q2:=fun n=>kIn n c.fams[k].good 0 5;rw[ef];generalize F1 c.fams[k].size 1 4=z1 at *;generalize F1 c.fams[k].good 0 5=z2 at *;generalize (c.fams.drop (k+1)).all K2=z at ih|-;rw[AB];simp only[AD]at ih|-;cases z1<;>cases z2<;>cases z<;>(simp at ih;simp[AU,hk',hw,q1,q2,ih])
theorem AKT(n:Nat)(c:AQ)(hw:∀l∈c.beach.winds,l.length<=100)(hp:c.plan.length<=100)(hch:c.chairs.length<=100):AY db kn (AE db ann kn (n+2400)) 70 [.agg (AD c)]=some (i (EC c)):=by
 rw[AN rfl,AO Tryz.func70 b70 rfl (by simp[AD,AS,A6,AU])];have qf:=fun n=>AJZ n c.beach hw;unfold EC;by_cases a1:3<c.fams.length
 ·have e1:(3:Int)<(c.fams.length:Int):=by omega
  rw[if_pos a1];simp only[AD];simp[c70,AF,e1]
 rw[if_neg a1];have e1:¬(3:Int)<(c.fams.length:Int):=by omega
 by_cases a2:D2 c.beach≠0
 ·rw[if_pos a2];simp only[AD,AC]at qf|-;simp[c70,AF,e1,qf,a2]
 rw[if_neg a2];have a2:D2 c.beach=0:=by simpa using a2
 have hb:=UJ a2;have qp:=fun n=>AJQ n c.beach hb c.plan hp;have qt:=fun n=>gE n c.beach hb;rw[a2]at qf;by_cases a3:ES c.beach c.plan=false
 ·rw[if_pos a3];rw[a3]at qp;simp only[AD,AC]at qf qp|-;simp[c70,AF,e1,qf,qp]
 rw[if_neg a3];have a3:ES c.beach c.plan=true:=by simpa using a3
 rw[a3]at qp;by_cases a4:BS c.beach=[]
 ·rw[if_pos a4];rw[a4]at qt;simp only[AD,AC]at qf qp qt|-;simp at qt;simp[c70,AF,e1,qf,qp,qt]
 rw[if_neg a4];have a4':¬((BS c.beach).length:Int)=0:=fun h=>a4 (List.eq_nil_of_length_eq_zero (by omega));by_cases a5:(c.chairs.length:Int)=c.beach.rows
 ·have ec:HE c=c.chairs.all (fun l=>decide ((l.length:Int)=c.beach.places)):=by unfold HE;rw[decide_eq_true a5,cg]
  rw[ec];obtain⟨f1,g1,q1⟩:=APM c hch c.chairs.length 0 (by omega);obtain⟨f2,q2⟩:=APN c (by omega) c.fams.length 0 (by omega);have q1:=fun n m=>q1 n (m+101) (by omega);have q2:=fun n m=>q2 n (m+101) (by omega);rw[cx]at q1 q2;generalize c.chairs.all (fun l=>decide ((l.length:Int)=c.beach.places))=y1 at *;generalize c.fams.all K2=y2 at *;generalize BS c.beach=T at *;simp only[AD,AC]at qf qp qt q1 q2|-;cases y1<;>cases y2<;>(simp at q1 q2;simp[c70,AF,e1,qf,qp,qt,a4,a5,q1,q2,g1])
 ·have ec:HE c=false:=by unfold HE;rw[decide_eq_false a5,ct]
  rw[if_pos ec];generalize BS c.beach=T at *;simp only[AD,AC]at qf qp qt|-;simp[c70,AF,e1,qf,qp,qt,a4,a5]
theorem AKU(n:Nat)(c:AQ)(hw:∀l∈c.beach.winds,l.length<=100)(hp:c.plan.length<=100)(hch:c.chairs.length<=100):AY db kn (AE db ann kn (n+2500)) 23 [.agg (AD c)]=some (i (EC c)):=by rw[AN rfl,AO Tryz.func23 b23 rfl (by simp[AD,AS,A6,AU])];have q:=fun n=>AKT n c hw hp hch;generalize EC c=E at *;simp only[AD]at q|-;simp[c23,AF,q,AS,A6,AU]
end Go.Proofs.Tryz.Op
