/- Contracts of the reference: People, Chairs, Minds, Groups. No condition but small numbers. -/
import Derived.Test.YthhdhbalenanjaaGreatC1
import Derived.Test.YthhdhbalenanjaaGreatEa
open Go.Proofs.Tryz renaming prog->dx
open List renaming getD_eq_getElem?_getD->bj,getElem?_eq_getElem->bk,drop_eq_getElem_cons->bq,getElem_mem->bw,take_succ_eq_append_getElem->bx,mem_cons_of_mem->bz,range->bb,length_range->bc,all_cons->bf,map_append->bg,take_length->bh,mem_map->bm,map_congr_left->bn,length_take->bp,drop_eq_nil_of_le->cj,drop_zero->cq,mem_range->cw,not_mem_nil->cz,drop_length->cd,getElem_range->cg,sum_append->cn,count_le_length->cp,length_map->ct,map_map->dk,mem_cons->dq,map->dw
open Bool renaming not_eq_true'->ck,and_eq_true->cx,true_and->cm
set_option maxRecDepth 100000
set_option linter.unusedSimpArgs false
open Go Go.Pg Go.Proofs Go.Wind
namespace Go.Wind
def CH(G:List (Nat×Int)):Int:=(G.map (·.2)).sum
theorem jV{G:List (Nat×Int)}{k:Nat}(h:k<G.length):CH (G.take (k+1))=CH (G.take k)+G[k].2:=by unfold CH;rw[bx h,bg,cn];simp
theorem ZV:∀{G:List (Nat×Int)},(∀g∈G,0<=g.2/\g.2<=4)->0<=CH G/\CH G<=4*G.length
 |[],_=>by simp[CH]
 |g::G,h=>by have ih:=ZV (G:=G) fun x hx=>h x (by simp[hx]);have h1:=h g (by simp);simp only[CH,List.map_cons,List.sum_cons,List.length_cons]at ih|-;omega
end Go.Wind
namespace Go.Proofs.Tryz.Op
theorem A3E(G:List (Nat×Int))(hl:G.length<=100)(hg:∀g∈G,0<=g.2/\g.2<=4):∀(d k:Nat),k+d=G.length->∀n m,d<m->A9 (AE dx ann kn (n+100) 19) Z7 (ann 19 (BV Z7)) m ⟨0,[(0,true,.list false (G.map A4)),(3,true,i (CH (G.take k))),(4,true,i k)],⟨[],[]⟩⟩ =
  some (.exit 0,⟨0,[(8,true,.bool false),(7,true,i G.length),(6,true,.list false (G.map A4)),(5,true,i G.length),(0,true,.list false (G.map A4)),(3,true,i (CH G)),(4,true,i G.length)],⟨[],[]⟩⟩)
 |0,k,hk,n,m+1,hm=>by
  obtain rfl:k=G.length:=by omega
  rw[bh,AB];simp
 |d+1,k,hk,n,m+1,hm=>by
  have hk':k<G.length:=by omega
  have hw:=BH (k:=k) (by omega);have h1:=hg G[k] (bw hk');have h2:=ZV (G:=G.take k) fun x hx=>hg x (List.mem_of_mem_take hx);have h3:(G.take k).length<=100:=by rw[bp];omega
  have hwp:IntKind.i64.wrap (CH (G.take k)+G[k].2)=CH (G.take k)+G[k].2:=AX (by omega) (by omega);have ih:=A3E G hl hg d (k+1) (by omega) n m (by omega);rw[jV hk']at ih;generalize CH (G.take k)=S at *;generalize CH G=SS at *;rw[AB];simp at ih;simp[hk',hw,hwp,A4,ih]
theorem AK3(n:Nat)(G:List (Nat×Int))(hl:G.length<=100)(hg:∀g∈G,0<=g.2/\g.2<=4):AZ dx kn (AE dx ann kn (n+300)) 72 [.list false (G.map A4)]=some (i (CH G)):=by rw[AN rfl,AO Tryz.func72 b72 rfl (by simp[A4])];have q:=fun n m=>A3E G hl hg G.length 0 (by omega) n (m+101) (by omega);rw[show CH (G.take 0)=0 from rfl]at q;generalize CH G=S at *;simp at q;simp[c72,AF,q]
theorem A3F(c:AM)(r:Nat)(hr:r<c.chairs.length)(hl:c.chairs[r].length<=100)(N:Nat)(hN:N<=100000):∀(d j:Nat),j+d=c.chairs[r].length->∃fr,A3 fr 1=some (true,.ptr 0 1 0 0)/\A3 fr 3=some (true,i ((N+c.chairs[r].count true:Nat):Int))/\A3 fr 4=some (true,i r)/\∀n m,d<m->A9 (AE dx ann kn (n+200) 34) Z8 (ann 34 (BV Z8)) m ⟨1,[(1,true,.ptr 0 1 0 0),(3,true,i ((N+(c.chairs[r].take j).count true:Nat):Int)),(4,true,i r),(5,true,i j)],⟨[],[(1,0,.box (AD c))]⟩⟩ =
  some (.exit 2,⟨1,fr,⟨[],[(1,0,.box (AD c))]⟩⟩)
 |0,j,hd=>by
  obtain rfl:j=c.chairs[r].length:=by omega
  rw[bh];refine⟨?fr,?g1,?g3,?g4,fun n m hm=>?g2⟩;case g2=>
   obtain⟨m,rfl⟩:=qNz m (by omega)
   rw[AB]
   simp[AD,hr,AR]
   rfl
  case g1=>simp
  case g3=>simp
  case g4=>simp
 |d+1,j,hd=>by
  have hj:j<c.chairs[r].length:=by omega
  have hw:=BH (k:=j) (by omega);obtain⟨fr,g1,g3,g4,ih⟩:=A3F c r hr hl N hN d (j+1) (by omega);refine⟨fr,g1,g3,g4,fun n m hm=>?_⟩;obtain⟨m,rfl⟩:=qNz m (by omega);have ih:=ih n m (by omega);rw[ZT _ hj]at ih;have hcl:(c.chairs[r].take j).count true<=100:=by have:=cp (a:=true) (l:=c.chairs[r].take j);rw[bp]at this;omega
  generalize (c.chairs[r].take j).count true=C at *;have hwC2:IntKind.i64.wrap ((N:Int)+(C:Int)+1)=((N:Int)+((C:Int)+1)):=by rw[AX (by omega) (by omega)];omega
  rw[AB];simp only[AD]at ih|-;cases hz:c.chairs[r][j]with
  |true=>
   rw[hz,if_pos rfl]at ih
   simp at ih
   simp[hr,hj,hw,hz,AR,A7,hwC2,ih]
  |false=>
   rw[hz,if_neg (by decide),Nat.add_zero]at ih
   simp at ih
   simp[hr,hj,hw,hz,AR,A7,ih]
theorem A3G(c:AM)(hl:c.chairs.length<=100)(hr:∀l∈c.chairs,l.length<=100):∀(d r N:Nat),r+d=c.chairs.length->N<=100*r->∃fr,A3 fr 3=some (true,i ((N+((c.chairs.drop r).map fun l=>l.count true).sum:Nat):Int))/\∀n m,d<m->A9 (AE dx ann kn (n+400) 34) Z9 (ann 34 (BV Z9)) m ⟨1,[(1,true,.ptr 0 1 0 0),(3,true,i N),(4,true,i r)],⟨[],[(1,0,.box (AD c))]⟩⟩ =
  some (.exit 0,⟨1,fr,⟨[],[(1,0,.box (AD c))]⟩⟩)
 |0,r,N,hd,hN=>by
  obtain rfl:r=c.chairs.length:=by omega
  refine⟨?fr,?g3,fun n m hm=>?g2⟩;case g2=>
   obtain⟨m,rfl⟩:=qNz m (by omega)
   rw[AB]
   simp[AD]
   rfl
  case g3=>simp
 |d+1,r,N,hd,hN=>by
  have hj:r<c.chairs.length:=by omega
  have hw:=BH (k:=r) (by omega);have hlj:=hr c.chairs[r] (bw hj);obtain⟨f1,g1,g3,g4,q⟩:=A3F c r hj hlj N (by omega) c.chairs[r].length 0 (by omega);have q:=fun n m=>q n (m+101) (by omega);have hcl:=cp (a:=true) (l:=c.chairs[r]);obtain⟨fr,e3,ih⟩:=A3G c hl hr d (r+1) (N+c.chairs[r].count true) (by omega) (by omega);have hs:N+c.chairs[r].count true+((c.chairs.drop (r+1)).map fun l=>l.count true).sum=N+((c.chairs.drop r).map fun l=>l.count true).sum:=by rw[bq hj,List.map_cons,List.sum_cons];omega
  rw[hs]at e3;refine⟨fr,e3,fun n m hm=>?_⟩;obtain⟨m,rfl⟩:=qNz m (by omega);have ih:=ih n m (by omega);generalize c.chairs[r].count true=C at *;simp only[List.take_zero,List.count_nil,Nat.add_zero]at q;rw[AB];simp only[AD]at ih q|-;simp at ih q g3;simp[hj,hw,q,g1,g3,g4,ih]
theorem AED(n:Nat)(c:AM)(hl:c.chairs.length<=100)(hr:∀l∈c.chairs,l.length<=100):AZ dx kn (AE dx ann kn (n+600)) 73 [.agg (AD c)]=some (i (CZ c)):=by rw[AN rfl,AO Tryz.func73 b73 rfl (by simp[AD,AR,A7,AS])];obtain⟨fr,g3,q⟩:=A3G c hl hr c.chairs.length 0 0 (by omega) (by omega);have q:=fun n m=>q n (m+101) (by omega);have e:((c.chairs.drop 0).map fun l=>l.count true).sum=CZ c:=rfl;rw[e,Nat.zero_add]at g3;generalize CZ c=T at *;simp only[AD]at q|-;simp at q g3;simp[c73,AF,q,g3]
theorem AK4(n:Nat)(c:AM)(a b:Nat)(ha:a<c.fams.length)(hb:b<c.fams.length):AZ dx kn (AE dx ann kn (n+300)) 122 [.agg (AD c),i a,i b]=some (.bool (JT c a b)):=by
 rw[AN rfl,AO Tryz.func122 BF1 rfl (by simp[AD,AR,A7,AS])];unfold JT;rw[Y3 ha,Y3 hb];have e:decide ((a:Int)=(b:Int))=decide (a=b):=decide_eq_decide.2 (by omega);have e2:decide (a≠b)=!decide (a=b):=by simp
 rw[e2];generalize decide (a=b)=z at *;rcases hF1:c.fams[a]with⟨s1,g1,d1,h1⟩;rcases hF2:c.fams[b]with⟨s2,g2,d2,h2⟩;simp only[AD];have p1:Nat.beq 4 1=false:=rfl;cases z<;>cases d1<;>cases h1<;>cases d2<;>cases h2<;>simp[A5M,AF,e,ha,hb,hF1,hF2,AS,BR,C4,BG,FU,E7,JE,p1]
end Go.Proofs.Tryz.Op
namespace Go.Wind
def AQ(G:List (Nat×Int))(ss:List (Int×Int))(k:Nat):Sp:=⟨(G.getD k (0,0)).1,(G.getD k (0,0)).2,(ss.getD k (0,0)).1,(ss.getD k (0,0)).2⟩
def K0(c:AM)(x y:Sp)(a b:Nat):Bool :=
 let d:=y.place+(a:Int)-x.place-(b:Int)
 decide (d=0)||((decide (d=1)||decide (d = -1))&&JT c y.fam x.fam)
theorem ABC(c:AM)(x y:Sp):RN c x y=(bb y.size.toNat).any fun a=>(bb x.size.toNat).any (K0 c x y a):=rfl
def SY(c:AM)(x y:Sp):Bool:=decide (y.row≠x.row)||!RN c x y
end Go.Wind
namespace Go.Proofs.Tryz.Op
section
variable (c:AM)(G:List (Nat×Int))(ss:List (Int×Int))(t q:Nat)
set_option maxHeartbeats 1000000 in
theorem APZ(hG:ss.length<=G.length)(ht:t+1=ss.length)(hq:q<t)(hs:ss.length<=100)(hf:∀g∈G,g.1<c.fams.length/\0<=g.2/\g.2<=4)(hp:0<=(AQ G ss q).place/\(AQ G ss q).place<=1000)(hx:0<=(AQ G ss t).place/\(AQ G ss t).place<=1000)(a:Nat)(ha:a<=4):∀(d b:Nat),b+d=(AQ G ss t).size.toNat->∃fr,A3 fr 1=some (true,.list false (G.map A4))/\A3 fr 2=some (true,.list false (ss.map AH))/\A3 fr 3=some (true,.ptr 0 3 0 0)/\A3 fr 7=some (true,i t)/\A3 fr 8=some (true,.ptr 0 8 1 0)/\A3 fr 9=some (true,i (AQ G ss t).size)/\A3 fr 10=some (true,i q)/\A3 fr 11=some (true,i a) /\
  ∀n m,d<m->A9 (AE dx ann kn (n+400) 112) T3 (ann 112 (BV T3)) m ⟨2,[(1,true,.list false (G.map A4)),(2,true,.list false (ss.map AH)),(3,true,.ptr 0 3 0 0),(7,true,i t),(8,true,.ptr 0 8 1 0),(9,true,i (AQ G ss t).size),(10,true,i q),(11,true,i a),(12,true,i b)],⟨[],[(3,0,.box (AD c)),(8,1,.box [i (AQ G ss t).row,i (AQ G ss t).place])]⟩⟩ =
   if ((bb (AQ G ss t).size.toNat).drop b).any (K0 c (AQ G ss t) (AQ G ss q) a)=true then some (.ret,⟨2,[(6,true,.bool false)],⟨[],[]⟩⟩) else some (.exit 4,⟨2,fr,⟨[],[(3,0,.box (AD c)),(8,1,.box [i (AQ G ss t).row,i (AQ G ss t).place])]⟩⟩)
 |0,b,hd=>by
  have hgt:t<G.length:=by omega
  have h1:=hf G[t] (bw hgt);have hge:(AQ G ss t).size=G[t].2:=by simp[AQ,bj,bk hgt]
  have hb:(b:Int)=(AQ G ss t).size:=by omega
  rw[cj (by rw[bc];omega),hb];refine⟨?fr,?g1,?g2,?g3,?g4,?g5,?g6,?g7,?g8,fun n m hm=>?g9⟩;case g9=>
   obtain⟨m,rfl⟩:=qNz m (by omega)
   rw[AB]
   simp[AD]
   rfl
  all_goals simp
 |d+1,b,hd=>by
  have hgt:t<G.length:=by omega
  have hgq:q<G.length:=by omega
  have hsq:q<ss.length:=by omega
  have h1:=hf G[t] (bw hgt);have h2:=hf G[q] (bw hgq);have et:(AQ G ss t).size=G[t].2:=by simp[AQ,bj,bk hgt]
  have et1:(AQ G ss t).fam=G[t].1:=by simp[AQ,bj,bk hgt]
  have eq1:(AQ G ss q).fam=G[q].1:=by simp[AQ,bj,bk hgq]
  have eq2:(AQ G ss q).place=ss[q].2:=by simp[AQ,bj,bk hsq]
  have hlt:(b:Int)<(AQ G ss t).size:=by omega
  have hw:=BH (k:=b) (by omega);have qm:=fun n=>AK4 n c G[q].1 G[t].1 h2.1 h1.1;have w1:IntKind.i64.wrap (ss[q].2+(a:Int))=ss[q].2+a:=AX (by omega) (by omega);have w2:IntKind.i64.wrap (ss[q].2+(a:Int)-(AQ G ss t).place)=ss[q].2+a-(AQ G ss t).place:=AX (by omega) (by omega);obtain⟨D,hD⟩:∃D,ss[q].2+(a:Int)-(AQ G ss t).place-b=D:=⟨_,rfl⟩;have w3:IntKind.i64.wrap (ss[q].2+(a:Int)-(AQ G ss t).place-b)=D:=by rw[AX (by omega) (by omega),hD]
  obtain⟨fr,g1,g2,g3,g4,g5,g6,g7,g8,ih⟩:=APZ hG ht hq hs hf hp hx a ha d (b+1) (by omega);refine⟨fr,g1,g2,g3,g4,g5,g6,g7,g8,fun n m hm=>?_⟩;obtain⟨m,rfl⟩:=qNz m (by omega);have ih:=ih n m (by omega);rw[bq (by rw[bc];omega),List.any_cons,cg];have ec:K0 c (AQ G ss t) (AQ G ss q) a b=(decide (ss[q].2+(a:Int)-(AQ G ss t).place-b=0)||((decide (ss[q].2+(a:Int)-(AQ G ss t).place-b=1)||decide (ss[q].2+(a:Int)-(AQ G ss t).place-b = -1))&&JT c G[q].1 G[t].1)):=by unfold K0;rw[eq1,et1,eq2]
  rw[ec,hD];clear hD ec;generalize ((bb (AQ G ss t).size.toNat).drop (b+1)).any (K0 c (AQ G ss t) (AQ G ss q) a)=z at ih|-;generalize JT c G[q].1 G[t].1=z4 at *;generalize AQ G ss t=X at *;generalize e1:decide (D=0)=z1;generalize e2:decide (D=1)=z2;generalize e3:decide (D = -1)=z3;rw[AB];simp only[AD]at ih qm|-;cases z1 with
  |true=>simp[hlt,hsq,w1,w2,w3,e1,lX,AH]
  |false=>
   cases z2 with
   |true=>
    cases z4 with
    |true=>simp[hlt,hgt,hgq,hsq,w1,w2,w3,e1,e2,qm,lX,A4,AH,AR,A7,AS]
    |false=>cases z<;>(simp at ih;simp[hlt,hw,hgt,hgq,hsq,w1,w2,w3,e1,e2,qm,lX,A4,AH,AR,A7,AS,ih])
   |false=>
    cases z3 with
    |true=>
     cases z4 with
     |true=>simp[hlt,hgt,hgq,hsq,w1,w2,w3,e1,e2,e3,qm,A4,AH,AR,A7,AS]
     |false=>cases z<;>(simp at ih;simp[hlt,hw,hgt,hgq,hsq,w1,w2,w3,e1,e2,e3,qm,A4,AH,AR,A7,AS,ih])
    |false=>cases z<;>(simp at ih;simp[hlt,hw,hsq,w1,w2,w3,e1,e2,e3,lX,AH,ih])
theorem AP0(hG:ss.length<=G.length)(ht:t+1=ss.length)(hq:q<t)(hs:ss.length<=100)(hf:∀g∈G,g.1<c.fams.length/\0<=g.2/\g.2<=4)(hp:0<=(AQ G ss q).place/\(AQ G ss q).place<=1000)(hx:0<=(AQ G ss t).place/\(AQ G ss t).place<=1000):∀(d a:Nat),a+d=(AQ G ss q).size.toNat->∃fr,A3 fr 1=some (true,.list false (G.map A4))/\A3 fr 2=some (true,.list false (ss.map AH))/\A3 fr 3=some (true,.ptr 0 3 0 0)/\A3 fr 7=some (true,i t)/\A3 fr 8=some (true,.ptr 0 8 1 0)/\A3 fr 9=some (true,i (AQ G ss t).size)/\A3 fr 10=some (true,i q) /\
  ∀n m,d<m->A9 (AE dx ann kn (n+600) 112) T4 (ann 112 (BV T4)) m ⟨2,[(1,true,.list false (G.map A4)),(2,true,.list false (ss.map AH)),(3,true,.ptr 0 3 0 0),(7,true,i t),(8,true,.ptr 0 8 1 0),(9,true,i (AQ G ss t).size),(10,true,i q),(11,true,i a)],⟨[],[(3,0,.box (AD c)),(8,1,.box [i (AQ G ss t).row,i (AQ G ss t).place])]⟩⟩ =
   if ((bb (AQ G ss q).size.toNat).drop a).any (fun a=>(bb (AQ G ss t).size.toNat).any (K0 c (AQ G ss t) (AQ G ss q) a))=true then some (.ret,⟨2,[(6,true,.bool false)],⟨[],[]⟩⟩) else some (.exit 2,⟨2,fr,⟨[],[(3,0,.box (AD c)),(8,1,.box [i (AQ G ss t).row,i (AQ G ss t).place])]⟩⟩)
 |0,a,hd=>by
  have hgq:q<G.length:=by omega
  have h1:=hf G[q] (bw hgq);have hge:(AQ G ss q).size=G[q].2:=by simp[AQ,bj,bk hgq]
  have hb:(a:Int)=G[q].2:=by omega
  rw[cj (by rw[bc];omega),hb];refine⟨?fr,?g1,?g2,?g3,?g4,?g5,?g6,?g7,fun n m hm=>?g9⟩;case g9=>
   obtain⟨m,rfl⟩:=qNz m (by omega)
   rw[AB]
   simp[AD,hgq,A4]
   rfl
  all_goals simp
 |d+1,a,hd=>by
  have hgq:q<G.length:=by omega
  have hgt:t<G.length:=by omega
  have h2:=hf G[q] (bw hgq);have h3:=hf G[t] (bw hgt);have eq3:(AQ G ss q).size=G[q].2:=by simp[AQ,bj,bk hgq]
  have hlt:(a:Int)<G[q].2:=by omega
  have hw:=BH (k:=a) (by omega);obtain⟨f0,b1,b2,b3,b4,b5,b6,b7,b8,qi⟩:=APZ c G ss t q hG ht hq hs hf hp hx a (by omega) (AQ G ss t).size.toNat 0 (by omega);have hts:(AQ G ss t).size=G[t].2:=by simp[AQ,bj,bk hgt]
  have qi:=fun n m=>qi n (m+100) (by omega);rw[cq]at qi;obtain⟨fr,g1,g2,g3,g4,g5,g6,g7,ih⟩:=AP0 hG ht hq hs hf hp hx d (a+1) (by omega);refine⟨fr,g1,g2,g3,g4,g5,g6,g7,fun n m hm=>?_⟩;obtain⟨m,rfl⟩:=qNz m (by omega);have ih:=ih n m (by omega);rw[bq (by rw[bc];omega),List.any_cons,cg];generalize ((bb (AQ G ss q).size.toNat).drop (a+1)).any (fun a=>(bb (AQ G ss t).size.toNat).any (K0 c (AQ G ss t) (AQ G ss q) a))=z at ih|-;generalize (bb (AQ G ss t).size.toNat).any (K0 c (AQ G ss t) (AQ G ss q) a)=z1 at *;generalize AQ G ss t=X at *;rw[AB];simp only[AD]at ih qi|-;cases z1<;>cases z<;>(simp at ih qi;simp[hlt,hw,hgq,qi,b1,b2,b3,b4,b5,b6,b7,b8,A4,ih])
end
theorem A3H(c:AM)(G:List (Nat×Int))(ss:List (Int×Int))(t:Nat)(hG:ss.length<=G.length)(ht:t+1=ss.length)(hs:ss.length<=100)(hf:∀g∈G,g.1<c.fams.length/\0<=g.2/\g.2<=4)(hp:∀q,q<t->0<=(AQ G ss q).place/\(AQ G ss q).place<=1000)(hx:0<=(AQ G ss t).place/\(AQ G ss t).place<=1000):∀(d q:Nat),q+d=t->∃fr,
  ∀n m,d<m->A9 (AE dx ann kn (n+800) 112) aA (ann 112 (BV aA)) m ⟨2,[(1,true,.list false (G.map A4)),(2,true,.list false (ss.map AH)),(3,true,.ptr 0 3 0 0),(7,true,i t),(8,true,.ptr 0 8 1 0),(9,true,i (AQ G ss t).size),(10,true,i q)],⟨[],[(3,0,.box (AD c)),(8,1,.box [i (AQ G ss t).row,i (AQ G ss t).place])]⟩⟩ =
   if ((bb t).drop q).all (fun q=>SY c (AQ G ss t) (AQ G ss q))=true then some (.exit 0,⟨2,fr,⟨[],[(3,0,.box (AD c)),(8,1,.box [i (AQ G ss t).row,i (AQ G ss t).place])]⟩⟩) else some (.ret,⟨2,[(6,true,.bool false)],⟨[],[]⟩⟩)
 |0,q,hd=>by
  obtain rfl:q=t:=by omega
  rw[cj (by rw[bc];omega)];refine⟨?fr,fun n m hm=>?g9⟩;case g9=>
   obtain⟨m,rfl⟩:=qNz m (by omega)
   rw[AB]
   simp[AD]
   rfl
 |d+1,q,hd=>by
  have hq:q<t:=by omega
  have hgq:q<G.length:=by omega
  have hsq:q<ss.length:=by omega
  have hw:=BH (k:=q) (by omega);have hlt:(q:Int)<(t:Int):=by omega
  have eq2:(AQ G ss q).row=ss[q].1:=by simp[AQ,bj,bk hsq]
  obtain⟨f0,b1,b2,b3,b4,b5,b6,b7,qi⟩:=AP0 c G ss t q hG ht hq hs hf (hp q hq) hx (AQ G ss q).size.toNat 0 (by omega);have qi:=fun n m=>qi n (m+100) (by
   have h2:=hf G[q] (bw hgq);have:(AQ G ss q).size=G[q].2:=by simp[AQ,bj,bk hgq]
   omega)
  rw[cq,<-ABC]at qi;obtain⟨fr,ih⟩:=A3H c G ss t hG ht hs hf hp hx d (q+1) (by omega);refine⟨fr,fun n m hm=>?_⟩;obtain⟨m,rfl⟩:=qNz m (by omega);have ih:=ih n m (by omega);rw[bq (by rw[bc];omega),bf,cg];have ef:SY c (AQ G ss t) (AQ G ss q)=(decide (ss[q].1≠(AQ G ss t).row)||!RN c (AQ G ss t) (AQ G ss q)):=by unfold SY;rw[eq2]
  rw[ef];generalize ((bb t).drop (q+1)).all (fun q=>SY c (AQ G ss t) (AQ G ss q))=z at ih|-;generalize RN c (AQ G ss t) (AQ G ss q)=z1 at *;generalize AQ G ss t=X at *;rw[AB];simp only[AD]at ih qi|-;by_cases hr:ss[q].1=X.row
  ·have hr':decide (ss[q].1≠X.row)=false:=by simp[hr]
   rw[hr'];cases z1<;>cases z<;>(simp at ih qi;simp[hlt,hw,hsq,hr,qi,b1,b2,b3,b4,b5,b6,b7,AH,ih])
  ·have hr':decide (ss[q].1≠X.row)=true:=by simp[hr]
   rw[hr'];cases z<;>(simp at ih;simp[hlt,hw,hsq,hr,AH,ih])
def JU(c:AM)(G:List (Nat×Int))(ss:List (Int×Int))(t:Nat):Bool:=D9 c (AQ G ss t)&&(bb t).all fun q=>SY c (AQ G ss t) (AQ G ss q)
theorem A3I(n:Nat)(c:AM)(h1:0<=c.beach.rows/\c.beach.rows<=1000)(h2:0<=c.beach.places/\c.beach.places<=1000)(G:List (Nat×Int))(ss:List (Int×Int))(t:Nat)(hG:ss.length<=G.length)(ht:t+1=ss.length)(hs:ss.length<=100)(hf:∀g∈G,g.1<c.fams.length/\0<=g.2/\g.2<=4)(hp:∀q,q<t->0<=(AQ G ss q).place/\(AQ G ss q).place<=1000):AZ dx kn (AE dx ann kn (n+1000)) 74 [.agg (AD c),.list false (G.map A4),.list false (ss.map AH)]=some (.bool (JU c G ss t)):=by
 rw[AN rfl,AO Tryz.func74 b74 rfl (by simp[AD,AR,A7,AS,A4])];have hgt:t<G.length:=by omega
 have hst:t<ss.length:=by omega
 have hf1:=hf G[t] (bw hgt);have e1:(AQ G ss t).size=G[t].2:=by simp[AQ,bj,bk hgt]
 have e2:(AQ G ss t).row=ss[t].1:=by simp[AQ,bj,bk hst]
 have e3:(AQ G ss t).place=ss[t].2:=by simp[AQ,bj,bk hst]
 have hlen:(ss.length:Int)=(t:Int)+1:=by omega
 have w0:IntKind.i64.wrap ((t:Int)+1-1)=(t:Int):=by rw[AX (by omega) (by omega)];omega
 have hlt0:¬((t:Int)+1<=(t:Int)):=by omega
 have w00:IntKind.i64.wrap (t:Int)=(t:Int):=AX (by omega) (by omega);have w1:IntKind.i64.wrap (c.beach.rows-1)=c.beach.rows-1:=AX (by omega) (by omega);have w2:IntKind.i64.wrap (c.beach.places-G[t].2)=c.beach.places-G[t].2:=AX (by omega) (by omega);have qi:=fun n=>kIn n ss[t].1 0 (c.beach.rows-1);unfold JU;have ef:D9 c (AQ G ss t)=(GF ss[t].1 0 (c.beach.rows-1)&&(!decide (ss[t].2<0)&&!decide (c.beach.places-G[t].2<ss[t].2))):=by unfold D9;rw[e1,e2,e3];congr 1;unfold GF;by_cases x1:ss[t].2<0<;>by_cases x2:c.beach.places-G[t].2<ss[t].2<;>simp[x1,x2]<;>omega
 have hp1:Nat.beq 2 1=false:=rfl;by_cases hfit:D9 c (AQ G ss t)=true
 ·have hx:0<=(AQ G ss t).place/\(AQ G ss t).place<=1000:=by simp only[D9,cx,C6]at hfit;omega
  obtain⟨fr,q⟩:=A3H c G ss t hG ht hs hf hp hx t 0 (by omega);have q:=fun n m=>q n (m+101) (by omega);rw[cq]at q;rw[hfit,cm];rw[ef]at hfit;simp only[cx,ck,decide_eq_false_iff_not]at hfit;obtain⟨f1,f2,f3⟩:=hfit;rw[f1]at qi;rw[e1,e2,e3]at q;generalize (bb t).all (fun q=>SY c (AQ G ss t) (AQ G ss q))=z at *;simp only[AD]at q|-;cases z<;>(simp at q;simp[c74,AF,hlen,hgt,hst,hlt0,w0,w00,w1,w2,qi,f2,f3,A4,AH,LJ,BR,C4,BG,FU,E7,lX,JE,hp1,q])
 ·have hfit:D9 c (AQ G ss t)=false:=by simpa using hfit
  rw[hfit,Bool.false_and];rw[ef]at hfit;generalize GF ss[t].1 0 (c.beach.rows-1)=z1 at *;generalize x2:decide (ss[t].2<0)=z2 at *;generalize x3:decide (c.beach.places-G[t].2<ss[t].2)=z3 at *;simp only[AD];cases z1<;>cases z2<;>cases z3<;>first|(exact absurd hfit (by decide))|simp[c74,AF,hlen,hgt,hst,hlt0,w0,w00,w1,w2,qi,x2,x3,A4,AH,LJ,BR,C4,BG,FU,E7,lX,JE,hp1]
end Go.Proofs.Tryz.Op
namespace Go.Wind
open Go.Proofs.Tryz.Op
def L6(c:AM)(G:List (Nat×Int))(ss:List (Int×Int)):Bool:=decide (ss.length=G.length)&&(decide (CH G<=(CZ c:Int))&&(bb ss.length).all (JU c G ss))
theorem SZ(c:AM)(f:Nat->Sp):∀n,GD c [] ((bb n).map f)=(bb n).all fun t=>D9 c (f t)&&((bb t).map f).all (HE c (f t))
 |0=>rfl
 |n+1=>by rw[List.range_succ,bg,ZM,SZ c f n,List.all_append];simp[GD]
theorem gH{G:List (Nat×Int)}(hG:∀g∈G,1<=g.2/\g.2<=4){ss:List (Int×Int)}{t:Nat}(ht:t<G.length):1<=(AQ G ss t).size:=by simp only[AQ,bj,bk ht,Option.getD_some];exact(hG _ (bw ht)).1
theorem nA{c:AM}{G:List (Nat×Int)}(hG:∀g∈G,1<=g.2/\g.2<=4){ss:List (Int×Int)}{t:Nat}(ht:t<G.length):JU c G ss t=(D9 c (AQ G ss t)&&((bb t).map (AQ G ss)).all (HE c (AQ G ss t))):=by
 rw[<- tC (gH hG ht) fun y hy=>by
  obtain⟨q,hq,rfl⟩:=bm.1 hy;exact gH hG (by have:=cw.1 hq; omega)]
 unfold JU AD3 SY;rw[List.all_map];rfl
theorem RO{G:List (Nat×Int)}{ss:List (Int×Int)}(_:ss.length<=G.length):∀{l:List Sp},l.length=ss.length->(∀j (h1:j<l.length),l[j]=AQ G ss j)->l=(bb ss.length).map (AQ G ss):=fun {l} h1 h2=>by apply List.ext_getElem (by simp[h1]);intro j g1 g2;rw[h2 j g1];simp
theorem nB{c:AM}{G:List (Nat×Int)}(hG:∀g∈G,1<=g.2/\g.2<=4)(ss:List (Int×Int)):L6 c G ss=(decide (ss.length=G.length)&&(decide (CH G<=(CZ c:Int))&&GD c [] ((bb ss.length).map (AQ G ss)))):=by
 unfold L6;by_cases h:ss.length=G.length
 ·congr 2;rw[SZ];have:∀l:List Nat,(∀t∈l,t<G.length)->l.all (JU c G ss)=l.all fun t=>D9 c (AQ G ss t)&&((bb t).map (AQ G ss)).all (HE c (AQ G ss t)):=fun l hl=>by
   induction l with
   |nil=>rfl
   |cons t l ih=>rw[bf,bf,ih fun x hx=>hl x (by simp[hx]),nA hG (hl t (by simp))]
  exact this _ fun t ht=>by have:=cw.1 ht;omega
 ·simp[h]
theorem FQ{c:AM}(hc:BQ c)(out:List Int):∀(k:Nat),k<=c.fams.length->∀g∈B8 c.fams out k,g.1<c.fams.length/\1<=g.2/\g.2<=4
 |0,_,g,hg=>by cases hg
 |k+1,hk,g,hg=>by
  simp only[B8,List.mem_append]at hg;rcases hg with hg|hg
  ·exact FQ hc out k (by omega) g hg
  ·split at hg
   ·cases hg
   ·rw[List.mem_singleton]at hg;subst hg;have hk':k<c.fams.length:=by omega
    have e:c.fams.getD k ⟨0,0,false,false⟩=c.fams[k]:=by rw[bj,bk hk'];rfl
    have:=hc.fo _ (bw hk');simp only[e];exact⟨hk',this.1⟩
theorem Q9{c:AM}:∀(k:Nat),k<=c.fams.length->CH (B8 c.fams [] k)=((c.fams.take k).map Q8.size).sum
 |0,_=>rfl
 |k+1,hk=>by
  have hk':k<c.fams.length:=by omega
  have e:c.fams.getD k ⟨0,0,false,false⟩=c.fams[k]:=by rw[bj,bk hk'];rfl
  have ih:=Q9 (c:=c) k (by omega);unfold CH at ih|-;simp only[B8,cz,decide_false,Bool.false_eq_true,if_false,e,bg,cn,ih];rw[bx hk',bg,cn];rfl
theorem jW{c:AM}(hc:BQ c)(ss:List (Int×Int)):L6 c (AP c []) ss=FP c ss:=by
 have hgl:(AP c []).length=c.fams.length:=ED c;have hgm:∀g∈AP c [],1<=g.2/\g.2<=4:=fun g hg=>(FQ hc [] _ (Nat.le_refl _) g hg).2;rw[nB hgm,hgl];unfold FP;by_cases h:ss.length=c.fams.length
 ·rw[decide_eq_true h,cm,cm];have hp:CH (AP c [])=OQ (CJ c ss):=by rw[show OQ (CJ c ss)=(c.fams.map Q8.size).sum from SP h];have:=Q9 (c:=c) c.fams.length (Nat.le_refl _);rw[bh]at this;exact this
  have hl:CJ c ss=(bb ss.length).map (AQ (AP c []) ss):=by
   refine RO (by omega) (by rw[show(CJ c ss).length=c.fams.length from FJ h,h]) fun j h1=>?_;have hj:j<c.fams.length:=by rwa [show(CJ c ss).length=c.fams.length from FJ h]at h1
   have e:=KA (k:=0) (fs:=c.fams) (ss:=ss) j hj (by omega) h1;rw[Nat.zero_add]at e;have hg:=AA8 hj (by rw[hgl];exact hj);unfold AQ;rw[bj,bj,bk (by rw[hgl];exact hj),bk (by omega:j<ss.length)];simp only[Option.getD_some,hg];exact e
  unfold P3;rw[hp,<-hl,Bool.and_comm]
 ·simp[h]
end Go.Wind
namespace Go.Proofs.Tryz.Op
def JV{α:Type}(l:List α):Bool:=!decide ((7:Int)<(l.length:Int))
def gJ(c:AM):Bool:=(YN c.beach&&(JV c.plan&&(JV c.chairs&&!decide ((5:Int)<(c.fams.length:Int)))))&&(c.plan.all JV&&c.chairs.all JV)
theorem ABD{α:Type}{l:List α}:JV l=true↔l.length<=7:=by simp only[JV,ck,decide_eq_false_iff_not];omega
theorem ZW{c:AM}(h:gJ c=true):YN c.beach=true/\c.plan.length<=7/\c.chairs.length<=7/\c.fams.length<=5/\(∀l∈c.plan,l.length<=7)/\∀l∈c.chairs,l.length<=7:=by simp only[gJ,cx,ABD,List.all_eq_true,ck,decide_eq_false_iff_not]at h;exact⟨h.1.1,h.1.2.1,h.1.2.2.1,by omega,h.2.1,h.2.2⟩
theorem A3J(c:AM)(hl:c.plan.length<=100):∀(d k:Nat),k+d=c.plan.length->∃fr,A3 fr 1=some (true,.ptr 0 1 0 0) /\
  ∀n m,d<m->A9 (AE dx ann kn (n+100) 55) aB (ann 55 (BV aB)) m ⟨1,[(1,true,.ptr 0 1 0 0),(3,true,i k)],⟨[],[(1,0,.box (AD c))]⟩⟩ =
   if (c.plan.drop k).all JV=true then some (.exit 0,⟨1,fr,⟨[],[(1,0,.box (AD c))]⟩⟩) else some (.ret,⟨1,[(2,true,.bool false)],⟨[],[]⟩⟩)
 |0,k,hk=>by
  have:k=c.plan.length:=by omega
  subst this;rw[cd];refine⟨?fr,?g1,fun n m hm=>?g2⟩;case g2=>
   obtain⟨m,rfl⟩:=qNz m (by omega)
   rw[AB]
   simp[AD]
   rfl
  case g1=>simp
 |d+1,k,hk=>by
  have hk':k<c.plan.length:=by omega
  have hw:=BH (k:=k) (by omega);obtain⟨fr,e1,ih⟩:=A3J c hl d (k+1) (by omega);rw[bq hk',bf];refine⟨fr,e1,fun n m hm=>?_⟩;obtain⟨m,rfl⟩:=qNz m (by omega);have ih:=ih n m (by omega);have es:JV c.plan[k]=!decide ((7:Int)<(c.plan[k].length:Int)):=rfl;rw[es];generalize e1:decide ((7:Int)<(c.plan[k].length:Int))=z1;generalize (c.plan.drop (k+1)).all JV=z at ih|-;rw[AB];simp only[AD]at ih|-;cases z1<;>cases z<;>(simp at ih;simp[AY,hk',hw,e1,ih])
theorem A3K(c:AM)(hl:c.chairs.length<=100):∀(d k:Nat),k+d=c.chairs.length->∃fr,A3 fr 1=some (true,.ptr 0 1 0 0) /\
  ∀n m,d<m->A9 (AE dx ann kn (n+100) 55) aC (ann 55 (BV aC)) m ⟨1,[(1,true,.ptr 0 1 0 0),(4,true,i k)],⟨[],[(1,0,.box (AD c))]⟩⟩ =
   if (c.chairs.drop k).all JV=true then some (.exit 2,⟨1,fr,⟨[],[(1,0,.box (AD c))]⟩⟩) else some (.ret,⟨1,[(2,true,.bool false)],⟨[],[]⟩⟩)
 |0,k,hk=>by
  have:k=c.chairs.length:=by omega
  subst this;rw[cd];refine⟨?fr,?g1,fun n m hm=>?g2⟩;case g2=>
   obtain⟨m,rfl⟩:=qNz m (by omega)
   rw[AB]
   simp[AD]
   rfl
  case g1=>simp
 |d+1,k,hk=>by
  have hk':k<c.chairs.length:=by omega
  have hw:=BH (k:=k) (by omega);obtain⟨fr,e1,ih⟩:=A3K c hl d (k+1) (by omega);rw[bq hk',bf];refine⟨fr,e1,fun n m hm=>?_⟩;obtain⟨m,rfl⟩:=qNz m (by omega);have ih:=ih n m (by omega);have es:JV c.chairs[k]=!decide ((7:Int)<(c.chairs[k].length:Int)):=rfl;rw[es];generalize e1:decide ((7:Int)<(c.chairs[k].length:Int))=z1;generalize (c.chairs.drop (k+1)).all JV=z at ih|-;rw[AB];simp only[AD]at ih|-;cases z1<;>cases z<;>(simp at ih;simp[AR,hk',hw,e1,ih])
theorem AS9(n:Nat)(c:AM):AZ dx kn (AE dx ann kn (n+1400)) 18 [.agg (AD c)]=some (.bool (gJ c)):=by
 rw[AN rfl,AO Tryz.func18 b18 rfl (by simp[AD,AR,A7,AS])];have qT:=fun n=>BBC n c.beach;unfold gJ;have es:JV c.plan=!decide ((7:Int)<(c.plan.length:Int)):=rfl;have et:JV c.chairs=!decide ((7:Int)<(c.chairs.length:Int)):=rfl;rw[es,et];generalize e1:decide ((7:Int)<(c.plan.length:Int))=z1;generalize e2:decide ((7:Int)<(c.chairs.length:Int))=z2;generalize e3:decide ((5:Int)<(c.fams.length:Int))=z3;generalize YN c.beach=z4 at *;simp only[AC]at qT;by_cases h:z4=true/\z1=false/\z2=false/\z3=false
 ·obtain⟨rfl,rfl,rfl,rfl⟩:=h;have h1:=of_decide_eq_false e1;have h2:=of_decide_eq_false e2;obtain⟨f1,g1,q1⟩:=A3J c (by omega) c.plan.length 0 (by omega);obtain⟨f2,g2,q2⟩:=A3K c (by omega) c.chairs.length 0 (by omega);have q1:=fun n m=>q1 n (m+100) (by omega);have q2:=fun n m=>q2 n (m+100) (by omega);rw[cq]at q1 q2;generalize c.plan.all JV=y1 at *;generalize c.chairs.all JV=y2 at *;simp only[AD]at q1 q2|-;cases y1<;>cases y2<;>(simp at q1 q2;simp[c18,AF,qT,e1,e2,e3,q1,q2,g1])
 ·simp only[AD]at|-;cases z4<;>cases z1<;>cases z2<;>cases z3<;>first|exact absurd ⟨rfl,rfl,rfl,rfl⟩ h|simp[c18,AF,qT,e1,e2,e3]
theorem A3L{k:Nat}(hk:k<=100000)(q g n:Nat):BZ dx 22 k [[.vec 0 q g n]]=true:=by rw[BT (by simp) (by simp)];simp[maxLen];omega
theorem AK5(l k:Nat)(o:Option (Nat×A0))(ls:List (List Int)):(ls.map AY).map (dw (BN l k o 3))=ls.map AY:=by rw[dk];exact bn fun x _=>rfl
theorem A3M(ls:List (List Int)):(ls.map AY).map (dw zD)=ls.map AY:=by rw[dk];exact bn fun x _=>rfl
theorem eO(k γ:Nat)(h:List V)(t:List (List V)):pv k γ (h::t)=.vec 0 k γ (t.length+1):=rfl
theorem slN:sl []=.nil:=rfl
theorem slC(e:List V)(es:List (List V)):sl (e::es)=.list false (e::es):=rfl
theorem ATA(ls:List (List Int))(h1:ls.length<=100)(h2:∀l∈ls,l.length<=100):∀(d k c γ:Nat),k+d=ls.length->∃fr c' γ',fr=[(8,true,V.bool false),(7,true,i ls.length),(6,true,FI ls),(5,true,i ls.length),(0,true,FI ls),(3,true,pv 18 γ' (ls.map AY)),(4,true,i ls.length)]/\∀n m,d<m->A9 (AE dx ann kn (n+200) 20) aD (ann 20 (BV aD)) m ⟨c,[(0,true,FI ls),(3,true,pv 18 γ ((ls.take k).map AY)),(4,true,i k)],⟨[],pl 18 γ 22 ((ls.take k).map AY)⟩⟩ =
  some (.exit 0,⟨c',fr,⟨[],pl 18 γ' 22 (ls.map AY)⟩⟩)
 |0,k,c,γ,hk=>by
  have:k=ls.length:=by omega
  subst this;rw[bh];refine⟨_,c,γ,rfl,fun n m hm=>?_⟩;obtain⟨m,rfl⟩:=qNz m (by omega);rw[AB];simp
 |d+1,k,c,γ,hk=>by
  have hk':k<ls.length:=by omega
  have hw:=BH (k:=k) (by omega);have h3:=h2 _ (bw hk');have hst:(ls.take (k+1)).map AY=(ls.take k).map AY++[AY ls[k]]:=by rw[bx hk',bg];rfl
  have hRl:((ls.take k).map AY).length=k:=by rw[ct,bp];omega
  have hto:=fun o=>AK5 0 16 o (ls.take k);have hR1:∀e∈(ls.take k).map AY,e.length=1:=fun e he=>by obtain⟨l,_,rfl⟩:=bm.1 he;rfl
  have hwk:=A3M (ls.take k);have ha:=fun q g n=>A3L (k:=((ls.take k).map AY).length) (by omega) q g n;have hai:=BA8 (k:=0) (l:=ls[k]) (by omega);generalize hLk:ls[k]=L at *;cases L with
  |nil=>
   obtain⟨fr,c',γ',e1,ih⟩:=ATA ls h1 h2 d (k+1) (c+1+1) (c+1) (by omega)
   refine⟨fr,c',γ',e1,fun n m hm=>?_⟩
   obtain⟨m,rfl⟩:=qNz m (by omega)
   have ih:=ih n m (by omega)
   rw[hst]at ih
   generalize ls.map AY=fin at *
   generalize (ls.take k).map AY=R at *
   rw[AB]
   simp at hai
   cases R with
   |nil=>simp[AY,li,eO]at ih ha;simp[show c+1+1=c+2 from rfl,hk',hw,hLk,AY,ha,hai,ih]
   |cons r R=>
    have hR2:=hR1 r (by simp)
    have hR3:=eq_true (fun e he=>hR1 e (bz r he):∀e∈R,e.length=1)
    simp[AY,li,eO]at ih ha hto hwk
    simp[show c+1+1=c+2 from rfl,hk',hw,hLk,AY,ha,hai,ih,hto,hwk,hR2,hR3,eO]
  |cons x L=>
   obtain⟨fr,c',γ',e1,ih⟩:=ATA ls h1 h2 d (k+1) (c+1+1) (c+1) (by omega)
   refine⟨fr,c',γ',e1,fun n m hm=>?_⟩
   obtain⟨m,rfl⟩:=qNz m (by omega)
   have ih:=ih n m (by omega)
   rw[hst]at ih
   generalize ls.map AY=fin at *
   generalize (ls.take k).map AY=R at *
   rw[AB]
   simp[AW]at hai
   cases R with
   |nil=>simp[AY,AW,li,eO]at ih ha;simp[show c+1+1=c+2 from rfl,hk',hw,hLk,AY,AW,ha,hai,ih]
   |cons r R=>
    have hR2:=hR1 r (by simp)
    have hR3:=eq_true (fun e he=>hR1 e (bz r he):∀e∈R,e.length=1)
    simp[AY,AW,li,eO]at ih ha hto hwk
    simp[show c+1+1=c+2 from rfl,hk',hw,hLk,AY,AW,ha,hai,ih,hto,hwk,hR2,hR3,eO]
theorem AK6(n:Nat)(ls:List (List Int))(h1:ls.length<=100)(h2:∀l∈ls,l.length<=100):AZ dx kn (AE dx ann kn (n+400)) 69 [FI ls]=some (sl (ls.map AY)):=by rw[AN rfl,AO Tryz.func69 b69 rfl (by simp)];obtain⟨fr,c',γ',e1,q⟩:=ATA ls h1 h2 ls.length 0 0 0 (by omega);have q:=fun n m=>q n (m+200) (by omega);simp at q e1;simp[c69,AF,q,e1]
theorem A3N{k:Nat}{g:Nat×Int}(h:k<=1000):BZ dx 135 k [[i (g.1:Int),i g.2]]=true:=by rw[BT (by simp) (by simp)];simp[maxLen];omega
theorem ABE{x N j:Nat}:((j:Int)∈G4 x N)↔j<N/\x.testBit j=true:=by
 unfold G4;rw[bm];constructor
 ·rintro ⟨i,hi,e⟩;rw[List.mem_filter,cw]at hi;have:i=j:=by omega
  subst this;exact hi
 ·intro h;exact⟨j,by rw[List.mem_filter,cw];exact h,rfl⟩
theorem AEE(x j:Nat):decide ((((x / 2 ^ j:Nat):Int).tmod 2)=0)=!x.testBit j:=by rw[<-AM8];have h:=Int.tmod_eq_emod_of_nonneg (a:=((x / 2 ^ j:Nat):Int)) (b:=2) (Int.natCast_nonneg _);rw[h];rcases Int.emod_two_eq ((x / 2 ^ j:Nat):Int)with h|h<;>rw[h]<;>rfl
def JZ(c:AM)(x:Nat):List (Nat×Int):=AP c (G4 x c.fams.length)
theorem ATB(c:AM)(hl:c.fams.length<=30)(x:Nat):∀(d k g γ:Nat),k+d=c.fams.length->0<g->∃g' γ' fr,A3 fr 5=some (true,pv 30 γ' ((JZ c x).map A4)) /\
  ∀n m,d<m->A9 (AE dx ann kn (n+100) 32) aE (ann 32 (BV aE)) m ⟨g,[(1,true,i x),(2,true,.ptr 0 2 0 0),(5,true,pv 30 γ ((B8 c.fams (G4 x c.fams.length) k).map A4)),(6,true,i k)],⟨[],(2,0,.box (AD c))::pl 30 γ 135 ((B8 c.fams (G4 x c.fams.length) k).map A4)⟩⟩ =
   some (.exit 0,⟨g',fr,⟨[],(2,0,.box (AD c))::pl 30 γ' 135 ((JZ c x).map A4)⟩⟩)
 |0,k,g,γ,hk,hg=>by
  obtain rfl:k=c.fams.length:=by omega
  have e:B8 c.fams (G4 x c.fams.length) c.fams.length=JZ c x:=rfl;rw[e];generalize JZ c x=R;refine⟨g,γ,?fr,?g1,fun n m hm=>?g2⟩;case g2=>
   obtain⟨m,rfl⟩:=qNz m (by omega)
   rw[AB]
   simp[AD]
   rfl
  case g1=>simp
 |d+1,k,g,γ,hk,hg=>by
  have hk':k<c.fams.length:=by omega
  have hw:=BH (k:=k) (by omega);have hgl:=OT c.fams (G4 x c.fams.length) k;have hf:c.fams.getD k ⟨0,0,false,false⟩=c.fams[k]:=by rw[bj,bk hk'];rfl
  have hst:B8 c.fams (G4 x c.fams.length) (k+1)=B8 c.fams (G4 x c.fams.length) k++(if decide ((k:Int)∈G4 x c.fams.length)=true then[] else[(k,c.fams[k].size)]):=by rw[<-hf];rfl
  have hin:decide ((k:Int)∈G4 x c.fams.length)=x.testBit k:=by rw[Bool.eq_iff_iff,decide_eq_true_eq,ABE];exact⟨fun h=>h.2,fun h=>⟨hk',h⟩⟩
  have happ:=A3N (k:=(B8 c.fams (G4 x c.fams.length) k).length) (g:=(k,c.fams[k].size)) (by omega);have e1:=AYJ (x:=x) (j:=k) (by omega);have e2:=ADM (p:=k) (by omega);have hb:=AEE x k;rw[hin]at hst;have hp1:Nat.beq 2 1=false:=rfl;generalize ((x / 2 ^ k:Nat):Int)=X at e1 hb;cases hbit:x.testBit k with
  |true=>
   rw[hbit]at hb hst
   rw[if_pos rfl,List.append_nil]at hst
   obtain⟨g',γ',fr,q1,ih⟩:=ATB c hl x d (k+1) g γ (by omega) hg
   refine⟨g',γ',fr,q1,fun n m hm=>?_⟩
   obtain⟨m,rfl⟩:=qNz m (by omega)
   have ih:=ih n m (by omega)
   rw[hst]at ih
   generalize B8 c.fams (G4 x c.fams.length) k=R at *
   rw[AB]
   simp only[AD]at ih|-
   simp at hb
   cases R<;>(simp at ih;simp[hk',hw,wH,e1,e2,-VV,hb,ih])
  |false=>
   rw[hbit]at hb hst
   rw[if_neg (by decide)]at hst
   obtain⟨g',γ',fr,q1,ih⟩:=ATB c hl x d (k+1) (g+1) g (by omega) (by omega)
   refine⟨g',γ',fr,q1,fun n m hm=>?_⟩
   obtain⟨m,rfl⟩:=qNz m (by omega)
   have ih:=ih n m (by omega)
   rw[hst]at ih
   generalize B8 c.fams (G4 x c.fams.length) k=R at *
   rw[AB]
   simp only[AD]at ih|-
   simp at hb
   cases R with
   |nil=>simp[A4,eO]at ih happ;simp[hk',hw,wH,e1,e2,-VV,hb,happ,AS,ih]
   |cons r R=>simp[A4,eO]at ih happ;simp[hk',hw,wH,e1,e2,-VV,hb,happ,AS,A4,eO,ih]
theorem AEF(n:Nat)(c:AM)(hl:c.fams.length<=30)(x:Nat):AZ dx kn (AE dx ann kn (n+200)) 26 [.agg (AD c),i x]=some (sl ((JZ c x).map A4)):=by
 rw[AN rfl,AO Tryz.func26 b26 rfl (by simp[AD,AR,A7,AS])];obtain⟨g',γ',fr,e1,q⟩:=ATB c hl x c.fams.length 0 1 0 (by omega) (by omega);have q:=fun n m=>q n (m+100) (by omega);have e0:B8 c.fams (G4 x c.fams.length) 0=[]:=rfl;rw[e0]at q;have hcl:∀e∈(JZ c x).map A4,∀v∈e,AG 8 v=true:=fun e he v hv=>by obtain⟨l,_,rfl⟩:=bm.1 he;simp only[A4,dq,cz,or_false]at hv;rcases hv with rfl|rfl<;>rfl
 generalize (JZ c x).map A4=R at *;simp only[AD]at q|-;simp at q e1;simp[c26,AF,q,e1];exact hcl
theorem WC{G:List (Nat×Int)}{ss:List (Int×Int)}{j q:Nat}(h:q<j):AQ G (ss.take j) q=AQ G ss q:=by unfold AQ;rw[bj,bj,bj,List.getElem?_take_of_lt h]
theorem ZX{c:AM}{G:List (Nat×Int)}{ss:List (Int×Int)}{t:Nat}:JU c G (ss.take (t+1)) t=JU c G ss t:=by
 unfold JU;rw[WC (by omega)];congr 1;have:∀l:List Nat,(∀q∈l,q<t)->l.all (fun q=>SY c (AQ G ss t) (AQ G (ss.take (t+1)) q))=l.all fun q=>SY c (AQ G ss t) (AQ G ss q):=fun l hl=>by
  induction l with
  |nil=>rfl
  |cons x l ih=>rw[bf,bf,ih fun y hy=>hl y (by simp[hy]),WC (by have:=hl x (by simp);omega)]
 exact this _ fun q hq=>cw.1 hq
theorem AP1(c:AM)(hl:c.chairs.length<=100):∀(d k:Nat),k+d=c.chairs.length->∃fr,A3 fr 1=some (true,.ptr 0 1 0 0) /\
  ∀n m,d<m->A9 (AE dx ann kn (n+100) 76) UG (ann 76 (BV UG)) m ⟨1,[(1,true,.ptr 0 1 0 0),(4,true,i k)],⟨[],[(1,0,.box (AD c))]⟩⟩ =
   if (c.chairs.drop k).all (fun l=>decide ((l.length:Int)=c.beach.places))=true then some (.exit 0,⟨1,fr,⟨[],[(1,0,.box (AD c))]⟩⟩) else some (.ret,⟨1,[(2,true,i 1)],⟨[],[]⟩⟩)
 |0,k,hk=>by
  have:k=c.chairs.length:=by omega
  subst this;rw[cd];refine⟨?fr,?g1,fun n m hm=>?g2⟩;case g2=>
   obtain⟨m,rfl⟩:=qNz m (by omega)
   rw[AB]
   simp[AD]
   rfl
  case g1=>simp
 |d+1,k,hk=>by
  have hk':k<c.chairs.length:=by omega
  have hw:=BH (k:=k) (by omega);obtain⟨fr,e1,ih⟩:=AP1 c hl d (k+1) (by omega);rw[bq hk',bf];refine⟨fr,e1,fun n m hm=>?_⟩;obtain⟨m,rfl⟩:=qNz m (by omega);have ih:=ih n m (by omega);generalize e1:decide ((c.chairs[k].length:Int)=c.beach.places)=z1;generalize (c.chairs.drop (k+1)).all (fun l=>decide ((l.length:Int)=c.beach.places))=z at ih|-;rw[AB];simp only[AD]at ih|-;cases z1<;>cases z<;>(simp at ih;simp[AR,hk',hw,e1,ih])
theorem AP2(c:AM)(hl:c.fams.length<=100):∀(d k:Nat),k+d=c.fams.length->∃fr,
  ∀n m,d<m->A9 (AE dx ann kn (n+200) 76) UH (ann 76 (BV UH)) m ⟨1,[(1,true,.ptr 0 1 0 0),(5,true,i k)],⟨[],[(1,0,.box (AD c))]⟩⟩ =
   if (c.fams.drop k).all IB=true then some (.exit 2,⟨1,fr,⟨[],[(1,0,.box (AD c))]⟩⟩) else some (.ret,⟨1,[(2,true,i 1)],⟨[],[]⟩⟩)
 |0,k,hk=>by
  have:k=c.fams.length:=by omega
  subst this;rw[cd];refine⟨?fr,fun n m hm=>?g2⟩;case g2=>
   obtain⟨m,rfl⟩:=qNz m (by omega)
   rw[AB]
   simp[AD]
   rfl
 |d+1,k,hk=>by
  have hk':k<c.fams.length:=by omega
  have hw:=BH (k:=k) (by omega);obtain⟨fr,ih⟩:=AP2 c hl d (k+1) (by omega);rw[bq hk',bf];refine⟨fr,fun n m hm=>?_⟩;obtain⟨m,rfl⟩:=qNz m (by omega);have ih:=ih n m (by omega);have ef:IB c.fams[k]=(GF c.fams[k].size 1 4&&GF c.fams[k].good 0 5):=rfl;have q1:=fun n=>kIn n c.fams[k].size 1 4;have q2:=fun n=>kIn n c.fams[k].good 0 5;rw[ef];generalize GF c.fams[k].size 1 4=z1 at *;generalize GF c.fams[k].good 0 5=z2 at *;generalize (c.fams.drop (k+1)).all IB=z at ih|-;rw[AB];simp only[AD]at ih|-;cases z1<;>cases z2<;>cases z<;>(simp at ih;simp[AS,hk',hw,q1,q2,ih])
theorem AK7(n:Nat)(c:AM)(hw:∀l∈c.beach.winds,l.length<=100)(hp:c.plan.length<=100)(hch:c.chairs.length<=100):AZ dx kn (AE dx ann kn (n+2400)) 70 [.agg (AD c)]=some (i (DT c)):=by
 rw[AN rfl,AO Tryz.func70 b70 rfl (by simp[AD,AR,A7,AS])];have qf:=fun n=>AKB n c.beach hw;unfold DT;by_cases a1:3<c.fams.length
 ·have e1:(3:Int)<(c.fams.length:Int):=by omega
  rw[if_pos a1];simp only[AD];simp[c70,AF,e1]
 rw[if_neg a1];have e1:¬(3:Int)<(c.fams.length:Int):=by omega
 by_cases a2:DU c.beach≠0
 ·rw[if_pos a2];simp only[AD,AC]at qf|-;simp[c70,AF,e1,qf,a2]
 rw[if_neg a2];have a2:DU c.beach=0:=by simpa using a2
 have hb:=UL a2;have qp:=fun n=>AJ2 n c.beach hb c.plan hp;have qt:=fun n=>gO n c.beach hb;rw[a2]at qf;by_cases a3:D6 c.beach c.plan=false
 ·rw[if_pos a3];rw[a3]at qp;simp only[AD,AC]at qf qp|-;simp[c70,AF,e1,qf,qp]
 rw[if_neg a3];have a3:D6 c.beach c.plan=true:=by simpa using a3
 rw[a3]at qp;by_cases a4:BK c.beach=[]
 ·rw[if_pos a4];rw[a4]at qt;simp only[AD,AC]at qf qp qt|-;simp at qt;simp[c70,AF,e1,qf,qp,qt]
 rw[if_neg a4];have a4':¬((BK c.beach).length:Int)=0:=fun h=>a4 (List.eq_nil_of_length_eq_zero (by omega));by_cases a5:(c.chairs.length:Int)=c.beach.rows
 ·have ec:E2 c=c.chairs.all (fun l=>decide ((l.length:Int)=c.beach.places)):=by unfold E2;rw[decide_eq_true a5,cm]
  rw[ec];obtain⟨f1,g1,q1⟩:=AP1 c hch c.chairs.length 0 (by omega);obtain⟨f2,q2⟩:=AP2 c (by omega) c.fams.length 0 (by omega);have q1:=fun n m=>q1 n (m+101) (by omega);have q2:=fun n m=>q2 n (m+101) (by omega);rw[cq]at q1 q2;generalize c.chairs.all (fun l=>decide ((l.length:Int)=c.beach.places))=y1 at *;generalize c.fams.all IB=y2 at *;generalize BK c.beach=T at *;simp only[AD,AC]at qf qp qt q1 q2|-;cases y1<;>cases y2<;>(simp at q1 q2;simp[c70,AF,e1,qf,qp,qt,a4,a5,q1,q2,g1])
 ·have ec:E2 c=false:=by unfold E2;rw[decide_eq_false a5,Bool.false_and]
  rw[if_pos ec];generalize BK c.beach=T at *;simp only[AD,AC]at qf qp qt|-;simp[c70,AF,e1,qf,qp,qt,a4,a5]
theorem AK8(n:Nat)(c:AM)(hw:∀l∈c.beach.winds,l.length<=100)(hp:c.plan.length<=100)(hch:c.chairs.length<=100):AZ dx kn (AE dx ann kn (n+2500)) 23 [.agg (AD c)]=some (i (DT c)):=by rw[AN rfl,AO Tryz.func23 b23 rfl (by simp[AD,AR,A7,AS])];have q:=fun n=>AK7 n c hw hp hch;generalize DT c=E at *;simp only[AD]at q|-;simp[c23,AF,q,AR,A7,AS]
theorem AK9(l k:Nat)(o:Option (Nat×A0))(ls:List (List Bool)):(ls.map AR).map (dw (BN l k o 3))=ls.map AR:=by rw[dk];exact bn fun x _=>rfl
theorem A3O(ls:List (List Bool)):(ls.map AR).map (dw zD)=ls.map AR:=by rw[dk];exact bn fun x _=>rfl
theorem S0{P:Program}{fr:Fr}{s:St}(e d c:Nat)(ys:List (List V))(h:BZ P e 0 ys=true):wE P e d c fr s .nil ys=some (⟨c+1,(d,true,.vec s.up.length d c ys.length)::fr,s.put s.up.length d c (.vec e ys)⟩,[(s.up.length,d),(s.up.length,d+JE)]):=by unfold wE;simp[IQ,h]
theorem A3P{k:Nat}{l:List Bool}(h:k+l.length<=100000):BZ dx 4 k (l.map A7)=true:=by rw[BT (by simp) (by simp)];simp[maxLen,A7];omega
theorem A3Q{k:Nat}(hk:k<=100000)(q g n:Nat):BZ dx 97 k [[.vec 0 q g n]]=true:=by rw[BT (by simp) (by simp)];simp[maxLen];omega
theorem A3R{k:Nat}{l:List Q8}(h:k+l.length<=100000):BZ dx 94 k (l.map AS)=true:=by rw[BT (by simp) (by simp)];simp[maxLen,AS];omega
abbrev bxC(b:AK)(p:List (List Int))(v w:V):A0:=.box (H2 b++[sl (p.map AY),v,w])
theorem ATC(c:AM)(h1:c.chairs.length<=100)(h2:∀l∈c.chairs,l.length<=100)(cs2:List V)(hcs:∀o,cs2.map (BN 0 28 o 3)=cs2):∀(d k g γ:Nat),k+d=c.chairs.length->2<g->∃g' γ',g<=g'/\∀n m,d<m->A9 (AE dx ann kn (n+200) 59) aY (ann 59 (BV aY)) m ⟨g,[(1,true,.ptr 0 1 0 0),(2,true,.ptr 0 2 1 0),(3,true,.ptr 0 3 2 0),(4,true,i k)],⟨[],(1,0,.box (AD c))::(2,1,.box cs2)::(3,2,bxC c.beach c.plan (pv 30 γ ((c.chairs.take k).map AR)) .nil)::pl 30 γ 97 ((c.chairs.take k).map AR)⟩⟩ =
  some (.exit 0,⟨g',[(18,true,.bool false),(17,true,i c.chairs.length),(16,true,.list false (c.chairs.map AR)),(15,true,.ptr 0 1 0 10),(14,true,i c.chairs.length),(1,true,.ptr 0 1 0 0),(2,true,.ptr 0 2 1 0),(3,true,.ptr 0 3 2 0),(4,true,i c.chairs.length)],⟨[],(1,0,.box (AD c))::(2,1,.box cs2)::(3,2,bxC c.beach c.plan (pv 30 γ' (c.chairs.map AR)) .nil)::pl 30 γ' 97 (c.chairs.map AR)⟩⟩)
 |0,k,g,γ,hk,hg=>by
  have:k=c.chairs.length:=by omega
  subst this;rw[bh];refine⟨g,γ,Nat.le_refl _,fun n m hm=>?_⟩;obtain⟨m,rfl⟩:=qNz m (by omega);rw[AB];simp only[AD,bxC,H2];cases c.chairs<;>simp
 |d+1,k,g,γ,hk,hg=>by
  have hk':k<c.chairs.length:=by omega
  have hw:=BH (k:=k) (by omega);have h3:=h2 _ (bw hk');have hst:(c.chairs.take (k+1)).map AR=(c.chairs.take k).map AR++[AR c.chairs[k]]:=by rw[bx hk',bg];rfl
  have hRl:((c.chairs.take k).map AR).length=k:=by rw[ct,bp];omega
  have hto:=fun o=>AK9 0 28 o (c.chairs.take k);have hwk:=A3O (c.chairs.take k);have hR1:∀e∈(c.chairs.take k).map AR,e.length=1:=fun e he=>by obtain⟨l,_,rfl⟩:=bm.1 he;rfl
  have ha:=fun q g n=>A3Q (k:=((c.chairs.take k).map AR).length) (by omega) q g n;have hai:=A3P (k:=0) (l:=c.chairs[k]) (by omega);generalize hLk:c.chairs[k]=L at *;cases L with
  |nil=>
   obtain⟨g',γ',hgg,ih⟩:=ATC c h1 h2 cs2 hcs d (k+1) (g+1+1) (g+1) (by omega) (by omega)
   refine⟨g',γ',by omega,fun n m hm=>?_⟩
   obtain⟨m,rfl⟩:=qNz m (by omega)
   have ih:=ih n m (by omega)
   rw[hst]at ih
   generalize (c.chairs.take k).map AR=R at *
   rw[AB]
   simp only[AD,bxC,H2]at ih|-
   simp at hai
   cases R with
   |nil=>simp[AR,lb,eO]at ih ha;simp[show g+1+1=g+2 from rfl,hk',hw,hLk,AR,ha,hai,hcs,ih,JE,S0,BR,BG,FU,E7,show 2<g+2 by omega]
   |cons r R=>
    have hR2:=hR1 r (by simp)
    have hR3:=eq_true (fun e he=>hR1 e (bz r he):∀e∈R,e.length=1)
    simp[AR,lb,eO]at ih ha hto hwk
    simp[show g+1+1=g+2 from rfl,hk',hw,hLk,AR,ha,hai,hcs,ih,hto,hwk,hR2,hR3,eO,JE,S0,BR,BG,FU,E7,show 2<g+2 by omega]
  |cons x L=>
   obtain⟨g',γ',hgg,ih⟩:=ATC c h1 h2 cs2 hcs d (k+1) (g+1+1) (g+1) (by omega) (by omega)
   refine⟨g',γ',by omega,fun n m hm=>?_⟩
   obtain⟨m,rfl⟩:=qNz m (by omega)
   have ih:=ih n m (by omega)
   rw[hst]at ih
   generalize (c.chairs.take k).map AR=R at *
   rw[AB]
   simp only[AD,bxC,H2]at ih|-
   simp[A7]at hai
   cases R with
   |nil=>simp[AR,A7,lb,eO]at ih ha;simp[show g+1+1=g+2 from rfl,hk',hw,hLk,AR,A7,ha,hai,hcs,ih,JE,S0,BR,BG,FU,E7,show 2<g+2 by omega]
   |cons r R=>
    have hR2:=hR1 r (by simp)
    have hR3:=eq_true (fun e he=>hR1 e (bz r he):∀e∈R,e.length=1)
    simp[AR,A7,lb,eO]at ih ha hto hwk
    simp[show g+1+1=g+2 from rfl,hk',hw,hLk,AR,A7,ha,hai,hcs,ih,hto,hwk,hR2,hR3,eO,JE,S0,BR,BG,FU,E7,show 2<g+2 by omega]
theorem A3S(c:AM)(h1:c.fams.length<=100)(cs2:List V)(γ3:Nat)(R:List (List V)):∀(d k g γ:Nat),k+d=c.fams.length->2<g->∃g' γ',g<=g'/\∀n m,d<m->A9 (AE dx ann kn (n+200) 59) aZ (ann 59 (BV aZ)) m ⟨g,[(1,true,.ptr 0 1 0 0),(2,true,.ptr 0 2 1 0),(3,true,.ptr 0 3 2 0),(5,true,i k)],⟨[],(1,0,.box (AD c))::(2,1,.box cs2)::(3,2,bxC c.beach c.plan (pv 30 γ3 R) (pv 56 γ ((c.fams.take k).map AS)))::(pl 30 γ3 97 R++pl 56 γ 94 ((c.fams.take k).map AS))⟩⟩ =
  some (.exit 2,⟨g',[(36,true,.bool false),(35,true,i c.fams.length),(34,true,.list false (c.fams.map AS)),(33,true,.ptr 0 1 0 11),(32,true,i c.fams.length),(1,true,.ptr 0 1 0 0),(2,true,.ptr 0 2 1 0),(3,true,.ptr 0 3 2 0),(5,true,i c.fams.length)],⟨[],(1,0,.box (AD c))::(2,1,.box cs2)::(3,2,bxC c.beach c.plan (pv 30 γ3 R) (pv 56 γ' (c.fams.map AS)))::(pl 30 γ3 97 R++pl 56 γ' 94 (c.fams.map AS))⟩⟩)
 |0,k,g,γ,hk,hg=>by
  have:k=c.fams.length:=by omega
  subst this;rw[bh];refine⟨g,γ,Nat.le_refl _,fun n m hm=>?_⟩;obtain⟨m,rfl⟩:=qNz m (by omega);rw[AB];simp only[AD,bxC,H2];cases R<;>cases c.fams<;>simp
 |d+1,k,g,γ,hk,hg=>by
  have hk':k<c.fams.length:=by omega
  have hw:=BH (k:=k) (by omega);have hst:(c.fams.take (k+1)).map AS=(c.fams.take k).map AS++[AS c.fams[k]]:=by rw[bx hk',bg];rfl
  have hRl:((c.fams.take k).map AS).length=k:=by rw[ct,bp];omega
  have hS1:∀e∈(c.fams.take k).map AS,e.length=4:=fun e he=>by obtain⟨l,_,rfl⟩:=bm.1 he;rfl
  have ha:=A3R (k:=((c.fams.take k).map AS).length) (l:=[c.fams[k]]) (by rw[hRl];simp;omega);obtain⟨g',γ',hgg,ih⟩:=A3S c h1 cs2 γ3 R d (k+1) (g+1+1) (g+1) (by omega) (by omega);refine⟨g',γ',by omega,fun n m hm=>?_⟩;obtain⟨m,rfl⟩:=qNz m (by omega);have ih:=ih n m (by omega);rw[hst]at ih;generalize (c.fams.take k).map AS=S at *;generalize hLk:c.fams[k]=f at *;rw[AB];simp only[AD,bxC,H2]at ih|-;cases S with
  |nil=>cases R<;>(simp[AS,eO]at ih ha;simp[hk',hw,hLk,AS,eO,ha,ih,show 0<g by omega])
  |cons q S=>
   have hS2:=hS1 q (by simp)
   have hS3:=eq_true (fun e he=>hS1 e (bz q he):∀e∈S,e.length=4)
   cases R<;>(simp[AS,eO]at ih ha;simp[hk',hw,hLk,AS,eO,ha,ih,hS2,hS3,show 0<g by omega])
def P7(c:AM):List V:=H2 c.beach++[sl (c.plan.map AY),sl (c.chairs.map AR),sl (c.fams.map AS)]
theorem ATD(n:Nat)(c:AM)(ht:gJ c=true):AZ dx kn (AE dx ann kn (n+900)) 21 [.agg (AD c)]=some (.agg (P7 c)):=by
 rw[AN rfl,AO Tryz.func21 b21 rfl (by simp[AD,AR,A7,AS])];obtain⟨t1,t2,t3,t4,t5,t6⟩:=ZW ht;simp only[YN,cx,ck,Bool.or_eq_false_iff,Bool.not_eq_false',decide_eq_false_iff_not]at t1;obtain⟨⟨⟨⟨⟨u1,u2⟩,u3⟩,u4⟩,u5⟩,_⟩:=t1;obtain⟨u6,u7⟩:=XO u3;have qB:=fun n=>AYP n c.beach (by omega) (by omega) (by omega) (fun l hl=>by have:=u7 l hl;omega) (by omega) (by omega);have qL:=fun n=>AK6 n c.plan (by omega) (fun l hl=>by have:=t5 l hl;omega);have hz:∀o,([i 0,i 0,i 0,i 0,.nil,.nil,.nil,.nil,.nil,.nil,.nil,.nil]:List V).map (BN 0 28 o 3)=[i 0,i 0,i 0,i 0,.nil,.nil,.nil,.nil,.nil,.nil,.nil,.nil]:=fun o=>rfl;obtain⟨g1,γ1,h1,q1⟩:=ATC c (by omega) (fun l hl=>by have:=t6 l hl;omega) _ hz c.chairs.length 0 3 0 (by omega) (by omega);obtain⟨g2,γ2,h2,q2⟩:=A3S c (by omega) [i 0,i 0,i 0,i 0,.nil,.nil,.nil,.nil,.nil,.nil,.nil,.nil] γ1 (c.chairs.map AR) c.fams.length 0 g1 0 (by omega) (by omega);have q1:=fun n m=>q1 n (m+100) (by omega);have q2:=fun n m=>q2 n (m+100) (by omega);rw[show(c.chairs.take 0).map AR=[] from rfl]at q1;rw[show(c.fams.take 0).map AS=[] from rfl]at q2;have hg2:1<g2:=by omega
 have c1:∀e∈c.chairs.map AR,∀v∈e,AG 7 v=true:=fun e he v hv=>by obtain⟨l,_,rfl⟩:=bm.1 he;simp only[AR,dq,cz,or_false]at hv;subst hv;simp[A7]
 have c2:∀e∈c.fams.map AS,∀v∈e,AG 7 v=true:=fun e he v hv=>by obtain⟨l,_,rfl⟩:=bm.1 he;simp only[AS,dq,cz,or_false]at hv;rcases hv with rfl|rfl|rfl|rfl<;>rfl
 unfold P7;simp only[AD,AC,bxC,H2]at q1 q2 qB qL|-;generalize c.chairs.map AR=R at *;generalize c.fams.map AS=S at *;cases R with
 |nil=>
  cases S with
  |nil=>
   simp at q1 q2
   simp[c21,AF,qB,qL,q1,q2,hg2,slN]
  |cons t S=>
   have s1:=eq_true (c2 t (by simp))
   have s2:=eq_true (fun e he=>c2 e (bz t he):∀e∈S,∀v∈e,AG 7 v=true)
   simp[eO]at q1 q2
   simp[c21,AF,qB,qL,q1,q2,s1,s2,hg2,slN,slC]
 |cons r R=>
  have r1:=eq_true (c1 r (by simp))
  have r2:=eq_true (fun e he=>c1 e (bz r he):∀e∈R,∀v∈e,AG 7 v=true)
  cases S with
  |nil=>
   simp[eO]at q1 q2
   simp[c21,AF,qB,qL,q1,q2,r1,r2,hg2,slN,slC]
  |cons t S=>
   have s1:=eq_true (c2 t (by simp))
   have s2:=eq_true (fun e he=>c2 e (bz t he):∀e∈S,∀v∈e,AG 7 v=true)
   simp[eO]at q1 q2
   simp[c21,AF,qB,qL,q1,q2,r1,r2,s1,s2,hg2,slC]
end Go.Proofs.Tryz.Op
