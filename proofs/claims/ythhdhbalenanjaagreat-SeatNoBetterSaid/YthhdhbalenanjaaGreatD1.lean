/- Contracts of the reference: People, Chairs, Minds, Groups. No condition but small numbers. -/
import Derived.Test.YthhdhbalenanjaaGreatC1
import Derived.Test.YthhdhbalenanjaaGreatW1
import Derived.Test.YthhdhbalenanjaaGreatFz
import Derived.Test.YthhdhbalenanjaaGreatA1
import Derived.Test.YthhdhbalenanjaaGreatL
import Derived.Test.YthhdhbalenanjaaGreatV1
import Derived.Test.YthhdhbalenanjaaGreatEa
set_option maxRecDepth 100000
set_option linter.unusedSimpArgs false
open Go Go.Pg Go.Proofs Go.Wind
namespace Go.Wind
def DU(G:List (Nat×Int)):Int:=(G.map (·.2)).sum
theorem lC{G:List (Nat×Int)}{k:Nat}(h:k<G.length):DU (G.take (k+1))=DU (G.take k)+G[k].2:=by unfold DU;rw[List.take_succ_eq_append_getElem h,List.map_append,List.sum_append];simp
theorem aC:∀{G:List (Nat×Int)},(∀g∈G,0≤g.2∧g.2≤4)→0≤DU G∧DU G≤4*G.length
 |[],_=>by simp[DU]
 |g::G,h=>by have ih:=aC (G:=G) fun x hx=>h x (by simp[hx]);have h1:=h g (by simp);simp only[DU,List.map_cons,List.sum_cons,List.length_cons]at ih⊢;omega
end Go.Wind
namespace Go.Proofs.Tryz.Op
theorem A7H(G:List (Nat×Int))(hl:G.length≤100)(hg:∀g∈G,0≤g.2∧g.2≤4):∀(d k:Nat),k+d=G.length→∀n m,d<m→BF (AE Tryz.prog ann kn (n+100) 19) aQ (ann 19 (BW aQ)) m ⟨0,[(0,true,.list false (G.map A7)),(3,true,i (DU (G.take k))),(4,true,i k)],⟨[],[]⟩⟩ =
  some (.exit 0,⟨0,[(8,true,.bool false),(7,true,i G.length),(6,true,.list false (G.map A7)),(5,true,i G.length),(0,true,.list false (G.map A7)),(3,true,i (DU G)),(4,true,i G.length)],⟨[],[]⟩⟩)
 |0,k,hk,n,m+1,hm=>by
  obtain rfl:k=G.length:=by omega
  rw[List.take_length,AB];simp
 |d+1,k,hk,n,m+1,hm=>by
  have hk':k<G.length:=by omega
  have hw:=BM (k:=k) (by omega);have h1:=hg G[k] (List.getElem_mem hk');have h2:=aC (G:=G.take k) fun x hx=>hg x (List.mem_of_mem_take hx);have h3:(G.take k).length≤100:=by rw[List.length_take];omega
  have hwp:IntKind.i64.wrap (DU (G.take k)+G[k].2)=DU (G.take k)+G[k].2:=AV (by omega) (by omega);have ih:=A7H G hl hg d (k+1) (by omega) n m (by omega);rw[lC hk']at ih;generalize DU (G.take k)=S at *;generalize DU G=SS at *;rw[AB];simp at ih;simp[hk',hw,hwp,A7,ih]
theorem AMB(n:Nat)(G:List (Nat×Int))(hl:G.length≤100)(hg:∀g∈G,0≤g.2∧g.2≤4):A0 Tryz.prog kn (AE Tryz.prog ann kn (n+300)) 72 [.list false (G.map A7)]=some (i (DU G)):=by rw[AP rfl,AR Tryz.func72 b72 rfl (by simp[A7])];have q:=fun n m=>A7H G hl hg G.length 0 (by omega) n (m+101) (by omega);rw[show DU (G.take 0)=0 from rfl]at q;generalize DU G=S at *;simp at q;simp[c72,AG,q]
theorem A7I(c:AO)(r:Nat)(hr:r<c.chairs.length)(hl:c.chairs[r].length≤100)(N:Nat)(hN:N≤100000):∀(d j:Nat),j+d=c.chairs[r].length→∃fr,BE fr 1=some (true,.ptr 0 1 0 0)∧BE fr 3=some (true,i ((N+c.chairs[r].count true:Nat):Int))∧BE fr 4=some (true,i r)∧∀n m,d<m→BF (AE Tryz.prog ann kn (n+200) 34) aR (ann 34 (BW aR)) m ⟨1,[(1,true,.ptr 0 1 0 0),(3,true,i ((N+(c.chairs[r].take j).count true:Nat):Int)),(4,true,i r),(5,true,i j)],⟨[],[(1,0,.box (AD c))]⟩⟩ =
  some (.exit 2,⟨1,fr,⟨[],[(1,0,.box (AD c))]⟩⟩)
 |0,j,hd=>by
  obtain rfl:j=c.chairs[r].length:=by omega
  rw[List.take_length];refine⟨?fr,?g1,?g3,?g4,fun n m hm=>?g2⟩;case g2=>
   obtain⟨m,rfl⟩:∃m',m=m'+1:=⟨m-1,by omega⟩
   rw[AB]
   simp[AD,hr,AS]
   rfl
  case g1=>simp
  case g3=>simp
  case g4=>simp
 |d+1,j,hd=>by
  have hj:j<c.chairs[r].length:=by omega
  have hw:=BM (k:=j) (by omega);obtain⟨fr,g1,g3,g4,ih⟩:=A7I c r hr hl N hN d (j+1) (by omega);refine⟨fr,g1,g3,g4,fun n m hm=>?_⟩;obtain⟨m,rfl⟩:∃m',m=m'+1:=⟨m-1,by omega⟩;have ih:=ih n m (by omega);rw[Z9 _ hj]at ih;have hcl:(c.chairs[r].take j).count true≤100:=by have:=List.count_le_length (a:=true) (l:=c.chairs[r].take j);rw[List.length_take]at this;omega
  generalize (c.chairs[r].take j).count true=C at *;have hwC2:IntKind.i64.wrap ((N:Int)+(C:Int)+1)=((N:Int)+((C:Int)+1)):=by rw[AV (by omega) (by omega)];omega
  rw[AB];simp only[AD]at ih⊢;cases hz:c.chairs[r][j]with
  |true=>
   rw[hz,if_pos rfl]at ih
   simp at ih
   simp[hr,hj,hw,hz,AS,A3,hwC2,ih]
  |false=>
   rw[hz,if_neg (by decide),Nat.add_zero]at ih
   simp at ih
   simp[hr,hj,hw,hz,AS,A3,ih]
theorem A7J(c:AO)(hl:c.chairs.length≤100)(hr:∀l∈c.chairs,l.length≤100):∀(d r N:Nat),r+d=c.chairs.length→N≤100*r→∃fr,BE fr 3=some (true,i ((N+((c.chairs.drop r).map fun l=>l.count true).sum:Nat):Int))∧∀n m,d<m→BF (AE Tryz.prog ann kn (n+400) 34) aS (ann 34 (BW aS)) m ⟨1,[(1,true,.ptr 0 1 0 0),(3,true,i N),(4,true,i r)],⟨[],[(1,0,.box (AD c))]⟩⟩ =
  some (.exit 0,⟨1,fr,⟨[],[(1,0,.box (AD c))]⟩⟩)
 |0,r,N,hd,hN=>by
  obtain rfl:r=c.chairs.length:=by omega
  refine⟨?fr,?g3,fun n m hm=>?g2⟩;case g2=>
   obtain⟨m,rfl⟩:∃m',m=m'+1:=⟨m-1,by omega⟩
   rw[AB]
   simp[AD]
   rfl
  case g3=>simp
 |d+1,r,N,hd,hN=>by
  have hj:r<c.chairs.length:=by omega
  have hw:=BM (k:=r) (by omega);have hlj:=hr c.chairs[r] (List.getElem_mem hj);obtain⟨f1,g1,g3,g4,q⟩:=A7I c r hj hlj N (by omega) c.chairs[r].length 0 (by omega);have q:=fun n m=>q n (m+101) (by omega);have hcl:=List.count_le_length (a:=true) (l:=c.chairs[r]);obtain⟨fr,e3,ih⟩:=A7J c hl hr d (r+1) (N+c.chairs[r].count true) (by omega) (by omega);have hs:N+c.chairs[r].count true+((c.chairs.drop (r+1)).map fun l=>l.count true).sum=N+((c.chairs.drop r).map fun l=>l.count true).sum:=by rw[List.drop_eq_getElem_cons hj,List.map_cons,List.sum_cons];omega
  rw[hs]at e3;refine⟨fr,e3,fun n m hm=>?_⟩;obtain⟨m,rfl⟩:∃m',m=m'+1:=⟨m-1,by omega⟩;have ih:=ih n m (by omega);generalize c.chairs[r].count true=C at *;simp only[List.take_zero,List.count_nil,Nat.add_zero]at q;rw[AB];simp only[AD]at ih q⊢;simp at ih q g3;simp[hj,hw,AS,q,g1,g3,g4,ih]
theorem AFZ(n:Nat)(c:AO)(hl:c.chairs.length≤100)(hr:∀l∈c.chairs,l.length≤100):A0 Tryz.prog kn (AE Tryz.prog ann kn (n+600)) 73 [.agg (AD c)]=some (i (D5 c)):=by rw[AP rfl,AR Tryz.func73 b73 rfl (by simp[AD,AJ,AM,AF,AS,A3,AU])];obtain⟨fr,g3,q⟩:=A7J c hl hr c.chairs.length 0 0 (by omega) (by omega);have q:=fun n m=>q n (m+101) (by omega);have e:((c.chairs.drop 0).map fun l=>l.count true).sum=D5 c:=rfl;rw[e,Nat.zero_add]at g3;generalize D5 c=T at *;simp only[AD]at q⊢;simp at q g3;simp[c73,AG,q,g3]
theorem AMC(n:Nat)(c:AO)(a b:Nat)(ha:a<c.fams.length)(hb:b<c.fams.length):A0 Tryz.prog kn (AE Tryz.prog ann kn (n+300)) 122 [.agg (AD c),i a,i b]=some (.bool (JL c a b)):=by
 rw[AP rfl,AR Tryz.func122 BLJ rfl (by simp[AD,AJ,AM,AF,AS,A3,AU])];unfold JL;rw[ZI ha,ZI hb];have e:decide ((a:Int)=(b:Int))=decide (a=b):=decide_eq_decide.2 (by omega);have e2:decide (a≠b)=!decide (a=b):=by simp
 rw[e2];generalize decide (a=b)=z at *;rcases hF1:c.fams[a]with⟨s1,g1,d1,h1⟩;rcases hF2:c.fams[b]with⟨s2,g2,d2,h2⟩;simp only[AD];have p1:Nat.beq 4 1=false:=rfl;cases z<;>cases d1<;>cases h1<;>cases d2<;>cases h2<;>simp[A9Q,AG,e,ha,hb,hF1,hF2,AU,AZ,BU,B5,BD,EZ,EK,C5,GD,p1]
end Go.Proofs.Tryz.Op
namespace Go.Wind
def AW(G:List (Nat×Int))(ss:List (Int×Int))(k:Nat):Sp:=⟨(G.getD k (0,0)).1,(G.getD k (0,0)).2,(ss.getD k (0,0)).1,(ss.getD k (0,0)).2⟩
def LW(c:AO)(x y:Sp)(a b:Nat):Bool :=
 let d:=y.place+(a:Int)-x.place-(b:Int)
 decide (d=0)||((decide (d=1)||decide (d = -1))&&JL c y.fam x.fam)
theorem ACR(c:AO)(x y:Sp):SH c x y=(List.range y.size.toNat).any fun a=>(List.range x.size.toNat).any (LW c x y a):=rfl
def TU(c:AO)(x y:Sp):Bool:=decide (y.row≠x.row)||!SH c x y
end Go.Wind
namespace Go.Proofs.Tryz.Op
section
variable (c:AO)(G:List (Nat×Int))(ss:List (Int×Int))(t q:Nat)
set_option maxHeartbeats 1000000 in
theorem ARO(hG:ss.length≤G.length)(ht:t+1=ss.length)(hq:q<t)(hs:ss.length≤100)(hf:∀g∈G,g.1<c.fams.length∧0≤g.2∧g.2≤4)(hp:0≤(AW G ss q).place∧(AW G ss q).place≤1000)(hx:0≤(AW G ss t).place∧(AW G ss t).place≤1000)(a:Nat)(ha:a≤4):∀(d b:Nat),b+d=(AW G ss t).size.toNat→∃fr,BE fr 1=some (true,.list false (G.map A7))∧BE fr 2=some (true,.list false (ss.map AF))∧BE fr 3=some (true,.ptr 0 3 0 0)∧BE fr 7=some (true,i t)∧BE fr 8=some (true,.ptr 0 8 1 0)∧BE fr 9=some (true,i (AW G ss t).size)∧BE fr 10=some (true,i q)∧BE fr 11=some (true,i a) ∧
  ∀n m,d<m→BF (AE Tryz.prog ann kn (n+400) 112) US (ann 112 (BW US)) m ⟨2,[(1,true,.list false (G.map A7)),(2,true,.list false (ss.map AF)),(3,true,.ptr 0 3 0 0),(7,true,i t),(8,true,.ptr 0 8 1 0),(9,true,i (AW G ss t).size),(10,true,i q),(11,true,i a),(12,true,i b)],⟨[],[(3,0,.box (AD c)),(8,1,.box [i (AW G ss t).row,i (AW G ss t).place])]⟩⟩ =
   if ((List.range (AW G ss t).size.toNat).drop b).any (LW c (AW G ss t) (AW G ss q) a)=true then some (.ret,⟨2,[(6,true,.bool false)],⟨[],[]⟩⟩) else some (.exit 4,⟨2,fr,⟨[],[(3,0,.box (AD c)),(8,1,.box [i (AW G ss t).row,i (AW G ss t).place])]⟩⟩)
 |0,b,hd=>by
  have hgt:t<G.length:=by omega
  have h1:=hf G[t] (List.getElem_mem hgt);have hge:(AW G ss t).size=G[t].2:=by simp[AW,List.getD_eq_getElem?_getD,List.getElem?_eq_getElem hgt]
  have hb:(b:Int)=(AW G ss t).size:=by omega
  rw[List.drop_eq_nil_of_le (by rw[List.length_range];omega),hb];refine⟨?fr,?g1,?g2,?g3,?g4,?g5,?g6,?g7,?g8,fun n m hm=>?g9⟩;case g9=>
   obtain⟨m,rfl⟩:∃m',m=m'+1:=⟨m-1,by omega⟩
   rw[AB]
   simp[AD]
   rfl
  all_goals simp
 |d+1,b,hd=>by
  have hgt:t<G.length:=by omega
  have hgq:q<G.length:=by omega
  have hsq:q<ss.length:=by omega
  have h1:=hf G[t] (List.getElem_mem hgt);have h2:=hf G[q] (List.getElem_mem hgq);have et:(AW G ss t).size=G[t].2:=by simp[AW,List.getD_eq_getElem?_getD,List.getElem?_eq_getElem hgt]
  have et1:(AW G ss t).fam=G[t].1:=by simp[AW,List.getD_eq_getElem?_getD,List.getElem?_eq_getElem hgt]
  have eq1:(AW G ss q).fam=G[q].1:=by simp[AW,List.getD_eq_getElem?_getD,List.getElem?_eq_getElem hgq]
  have eq2:(AW G ss q).place=ss[q].2:=by simp[AW,List.getD_eq_getElem?_getD,List.getElem?_eq_getElem hsq]
  have hlt:(b:Int)<(AW G ss t).size:=by omega
  have hw:=BM (k:=b) (by omega);have qm:=fun n=>AMC n c G[q].1 G[t].1 h2.1 h1.1;have w1:IntKind.i64.wrap (ss[q].2+(a:Int))=ss[q].2+a:=AV (by omega) (by omega);have w2:IntKind.i64.wrap (ss[q].2+(a:Int)-(AW G ss t).place)=ss[q].2+a-(AW G ss t).place:=AV (by omega) (by omega);obtain⟨D,hD⟩:∃D,ss[q].2+(a:Int)-(AW G ss t).place-b=D:=⟨_,rfl⟩;have w3:IntKind.i64.wrap (ss[q].2+(a:Int)-(AW G ss t).place-b)=D:=by rw[AV (by omega) (by omega),hD]
  obtain⟨fr,g1,g2,g3,g4,g5,g6,g7,g8,ih⟩:=ARO hG ht hq hs hf hp hx a ha d (b+1) (by omega);refine⟨fr,g1,g2,g3,g4,g5,g6,g7,g8,fun n m hm=>?_⟩;obtain⟨m,rfl⟩:∃m',m=m'+1:=⟨m-1,by omega⟩;have ih:=ih n m (by omega);rw[List.drop_eq_getElem_cons (by rw[List.length_range];omega),List.any_cons,List.getElem_range];have ec:LW c (AW G ss t) (AW G ss q) a b=(decide (ss[q].2+(a:Int)-(AW G ss t).place-b=0)||((decide (ss[q].2+(a:Int)-(AW G ss t).place-b=1)||decide (ss[q].2+(a:Int)-(AW G ss t).place-b = -1))&&JL c G[q].1 G[t].1)):=by unfold LW;rw[eq1,et1,eq2]
  rw[ec,hD];clear hD ec;generalize ((List.range (AW G ss t).size.toNat).drop (b+1)).any (LW c (AW G ss t) (AW G ss q) a)=z at ih⊢;generalize JL c G[q].1 G[t].1=z4 at *;generalize AW G ss t=X at *;generalize e1:decide (D=0)=z1;generalize e2:decide (D=1)=z2;generalize e3:decide (D = -1)=z3;rw[AB];simp only[AD]at ih qm⊢;cases z1 with
  |true=>simp[hlt,hw,hgt,hgq,hsq,w1,w2,w3,e1,C5,A7,AF,AS,A3,AU,AM,AJ]
  |false=>
   cases z2 with
   |true=>
    cases z4 with
    |true=>simp[hlt,hw,hgt,hgq,hsq,w1,w2,w3,e1,e2,qm,C5,A7,AF,AS,A3,AU,AM,AJ]
    |false=>cases z<;>(simp at ih;simp[hlt,hw,hgt,hgq,hsq,w1,w2,w3,e1,e2,qm,C5,A7,AF,AS,A3,AU,AM,AJ,ih])
   |false=>
    cases z3 with
    |true=>
     cases z4 with
     |true=>simp[hlt,hw,hgt,hgq,hsq,w1,w2,w3,e1,e2,e3,qm,C5,A7,AF,AS,A3,AU,AM,AJ]
     |false=>cases z<;>(simp at ih;simp[hlt,hw,hgt,hgq,hsq,w1,w2,w3,e1,e2,e3,qm,C5,A7,AF,AS,A3,AU,AM,AJ,ih])
    |false=>cases z<;>(simp at ih;simp[hlt,hw,hgt,hgq,hsq,w1,w2,w3,e1,e2,e3,C5,A7,AF,AS,A3,AU,AM,AJ,ih])
theorem ARP(hG:ss.length≤G.length)(ht:t+1=ss.length)(hq:q<t)(hs:ss.length≤100)(hf:∀g∈G,g.1<c.fams.length∧0≤g.2∧g.2≤4)(hp:0≤(AW G ss q).place∧(AW G ss q).place≤1000)(hx:0≤(AW G ss t).place∧(AW G ss t).place≤1000):∀(d a:Nat),a+d=(AW G ss q).size.toNat→∃fr,BE fr 1=some (true,.list false (G.map A7))∧BE fr 2=some (true,.list false (ss.map AF))∧BE fr 3=some (true,.ptr 0 3 0 0)∧BE fr 7=some (true,i t)∧BE fr 8=some (true,.ptr 0 8 1 0)∧BE fr 9=some (true,i (AW G ss t).size)∧BE fr 10=some (true,i q) ∧
  ∀n m,d<m→BF (AE Tryz.prog ann kn (n+600) 112) UT (ann 112 (BW UT)) m ⟨2,[(1,true,.list false (G.map A7)),(2,true,.list false (ss.map AF)),(3,true,.ptr 0 3 0 0),(7,true,i t),(8,true,.ptr 0 8 1 0),(9,true,i (AW G ss t).size),(10,true,i q),(11,true,i a)],⟨[],[(3,0,.box (AD c)),(8,1,.box [i (AW G ss t).row,i (AW G ss t).place])]⟩⟩ =
   if ((List.range (AW G ss q).size.toNat).drop a).any (fun a=>(List.range (AW G ss t).size.toNat).any (LW c (AW G ss t) (AW G ss q) a))=true then some (.ret,⟨2,[(6,true,.bool false)],⟨[],[]⟩⟩) else some (.exit 2,⟨2,fr,⟨[],[(3,0,.box (AD c)),(8,1,.box [i (AW G ss t).row,i (AW G ss t).place])]⟩⟩)
 |0,a,hd=>by
  have hgq:q<G.length:=by omega
  have h1:=hf G[q] (List.getElem_mem hgq);have hge:(AW G ss q).size=G[q].2:=by simp[AW,List.getD_eq_getElem?_getD,List.getElem?_eq_getElem hgq]
  have hb:(a:Int)=G[q].2:=by omega
  rw[List.drop_eq_nil_of_le (by rw[List.length_range];omega),hb];refine⟨?fr,?g1,?g2,?g3,?g4,?g5,?g6,?g7,fun n m hm=>?g9⟩;case g9=>
   obtain⟨m,rfl⟩:∃m',m=m'+1:=⟨m-1,by omega⟩
   rw[AB]
   simp[AD,hgq,A7]
   rfl
  all_goals simp
 |d+1,a,hd=>by
  have hgq:q<G.length:=by omega
  have hgt:t<G.length:=by omega
  have h2:=hf G[q] (List.getElem_mem hgq);have h3:=hf G[t] (List.getElem_mem hgt);have eq3:(AW G ss q).size=G[q].2:=by simp[AW,List.getD_eq_getElem?_getD,List.getElem?_eq_getElem hgq]
  have hlt:(a:Int)<G[q].2:=by omega
  have hw:=BM (k:=a) (by omega);obtain⟨f0,b1,b2,b3,b4,b5,b6,b7,b8,qi⟩:=ARO c G ss t q hG ht hq hs hf hp hx a (by omega) (AW G ss t).size.toNat 0 (by omega);have hts:(AW G ss t).size=G[t].2:=by simp[AW,List.getD_eq_getElem?_getD,List.getElem?_eq_getElem hgt]
  have qi:=fun n m=>qi n (m+100) (by omega);rw[List.drop_zero]at qi;obtain⟨fr,g1,g2,g3,g4,g5,g6,g7,ih⟩:=ARP hG ht hq hs hf hp hx d (a+1) (by omega);refine⟨fr,g1,g2,g3,g4,g5,g6,g7,fun n m hm=>?_⟩;obtain⟨m,rfl⟩:∃m',m=m'+1:=⟨m-1,by omega⟩;have ih:=ih n m (by omega);rw[List.drop_eq_getElem_cons (by rw[List.length_range];omega),List.any_cons,List.getElem_range];generalize ((List.range (AW G ss q).size.toNat).drop (a+1)).any (fun a=>(List.range (AW G ss t).size.toNat).any (LW c (AW G ss t) (AW G ss q) a))=z at ih⊢;generalize (List.range (AW G ss t).size.toNat).any (LW c (AW G ss t) (AW G ss q) a)=z1 at *;generalize AW G ss t=X at *;rw[AB];simp only[AD]at ih qi⊢;cases z1<;>cases z<;>(simp at ih qi;simp[hlt,hw,hgq,qi,b1,b2,b3,b4,b5,b6,b7,b8,A7,ih])
end
theorem A7K(c:AO)(G:List (Nat×Int))(ss:List (Int×Int))(t:Nat)(hG:ss.length≤G.length)(ht:t+1=ss.length)(hs:ss.length≤100)(hf:∀g∈G,g.1<c.fams.length∧0≤g.2∧g.2≤4)(hp:∀q,q<t→0≤(AW G ss q).place∧(AW G ss q).place≤1000)(hx:0≤(AW G ss t).place∧(AW G ss t).place≤1000):∀(d q:Nat),q+d=t→∃fr,
  ∀n m,d<m→BF (AE Tryz.prog ann kn (n+800) 112) aT (ann 112 (BW aT)) m ⟨2,[(1,true,.list false (G.map A7)),(2,true,.list false (ss.map AF)),(3,true,.ptr 0 3 0 0),(7,true,i t),(8,true,.ptr 0 8 1 0),(9,true,i (AW G ss t).size),(10,true,i q)],⟨[],[(3,0,.box (AD c)),(8,1,.box [i (AW G ss t).row,i (AW G ss t).place])]⟩⟩ =
   if ((List.range t).drop q).all (fun q=>TU c (AW G ss t) (AW G ss q))=true then some (.exit 0,⟨2,fr,⟨[],[(3,0,.box (AD c)),(8,1,.box [i (AW G ss t).row,i (AW G ss t).place])]⟩⟩) else some (.ret,⟨2,[(6,true,.bool false)],⟨[],[]⟩⟩)
 |0,q,hd=>by
  obtain rfl:q=t:=by omega
  rw[List.drop_eq_nil_of_le (by rw[List.length_range];omega)];refine⟨?fr,fun n m hm=>?g9⟩;case g9=>
   obtain⟨m,rfl⟩:∃m',m=m'+1:=⟨m-1,by omega⟩
   rw[AB]
   simp[AD]
   rfl
 |d+1,q,hd=>by
  have hq:q<t:=by omega
  have hgq:q<G.length:=by omega
  have hsq:q<ss.length:=by omega
  have hw:=BM (k:=q) (by omega);have hlt:(q:Int)<(t:Int):=by omega
  have eq2:(AW G ss q).row=ss[q].1:=by simp[AW,List.getD_eq_getElem?_getD,List.getElem?_eq_getElem hsq]
  obtain⟨f0,b1,b2,b3,b4,b5,b6,b7,qi⟩:=ARP c G ss t q hG ht hq hs hf (hp q hq) hx (AW G ss q).size.toNat 0 (by omega);have qi:=fun n m=>qi n (m+100) (by
   have h2:=hf G[q] (List.getElem_mem hgq);have:(AW G ss q).size=G[q].2:=by simp[AW,List.getD_eq_getElem?_getD,List.getElem?_eq_getElem hgq]
   omega)
  rw[List.drop_zero,←ACR]at qi;obtain⟨fr,ih⟩:=A7K c G ss t hG ht hs hf hp hx d (q+1) (by omega);refine⟨fr,fun n m hm=>?_⟩;obtain⟨m,rfl⟩:∃m',m=m'+1:=⟨m-1,by omega⟩;have ih:=ih n m (by omega);rw[List.drop_eq_getElem_cons (by rw[List.length_range];omega),List.all_cons,List.getElem_range];have ef:TU c (AW G ss t) (AW G ss q)=(decide (ss[q].1≠(AW G ss t).row)||!SH c (AW G ss t) (AW G ss q)):=by unfold TU;rw[eq2]
  rw[ef];generalize ((List.range t).drop (q+1)).all (fun q=>TU c (AW G ss t) (AW G ss q))=z at ih⊢;generalize SH c (AW G ss t) (AW G ss q)=z1 at *;generalize AW G ss t=X at *;rw[AB];simp only[AD]at ih qi⊢;by_cases hr:ss[q].1=X.row
  ·have hr':decide (ss[q].1≠X.row)=false:=by simp[hr]
   rw[hr'];cases z1<;>cases z<;>(simp at ih qi;simp[hlt,hw,hgq,hsq,hr,qi,b1,b2,b3,b4,b5,b6,b7,A7,AF,ih])
  ·have hr':decide (ss[q].1≠X.row)=true:=by simp[hr]
   rw[hr'];cases z<;>(simp at ih;simp[hlt,hw,hgq,hsq,hr,A7,AF,ih])
def HT(c:AO)(G:List (Nat×Int))(ss:List (Int×Int))(t:Nat):Bool:=CQ c (AW G ss t)&&(List.range t).all fun q=>TU c (AW G ss t) (AW G ss q)
theorem ARQ(n:Nat)(c:AO)(h1:0≤c.beach.rows∧c.beach.rows≤1000)(h2:0≤c.beach.places∧c.beach.places≤1000)(G:List (Nat×Int))(ss:List (Int×Int))(t:Nat)(hG:ss.length≤G.length)(ht:t+1=ss.length)(hs:ss.length≤100)(hf:∀g∈G,g.1<c.fams.length∧0≤g.2∧g.2≤4)(hp:∀q,q<t→0≤(AW G ss q).place∧(AW G ss q).place≤1000):A0 Tryz.prog kn (AE Tryz.prog ann kn (n+1000)) 74 [.agg (AD c),.list false (G.map A7),.list false (ss.map AF)]=some (.bool (HT c G ss t)):=by
 rw[AP rfl,AR Tryz.func74 b74 rfl (by simp[AD,AJ,AM,AF,AS,A3,AU,A7])];have hgt:t<G.length:=by omega
 have hst:t<ss.length:=by omega
 have hf1:=hf G[t] (List.getElem_mem hgt);have e1:(AW G ss t).size=G[t].2:=by simp[AW,List.getD_eq_getElem?_getD,List.getElem?_eq_getElem hgt]
 have e2:(AW G ss t).row=ss[t].1:=by simp[AW,List.getD_eq_getElem?_getD,List.getElem?_eq_getElem hst]
 have e3:(AW G ss t).place=ss[t].2:=by simp[AW,List.getD_eq_getElem?_getD,List.getElem?_eq_getElem hst]
 have hlen:(ss.length:Int)=(t:Int)+1:=by omega
 have w0:IntKind.i64.wrap ((t:Int)+1-1)=(t:Int):=by rw[AV (by omega) (by omega)];omega
 have hlt0:¬((t:Int)+1≤(t:Int)):=by omega
 have w00:IntKind.i64.wrap (t:Int)=(t:Int):=AV (by omega) (by omega);have w1:IntKind.i64.wrap (c.beach.rows-1)=c.beach.rows-1:=AV (by omega) (by omega);have w2:IntKind.i64.wrap (c.beach.places-G[t].2)=c.beach.places-G[t].2:=AV (by omega) (by omega);have qi:=fun n=>kIn n ss[t].1 0 (c.beach.rows-1);unfold HT;have ef:CQ c (AW G ss t)=(GI ss[t].1 0 (c.beach.rows-1)&&(!decide (ss[t].2<0)&&!decide (c.beach.places-G[t].2<ss[t].2))):=by unfold CQ;rw[e1,e2,e3];congr 1;unfold GI;by_cases x1:ss[t].2<0<;>by_cases x2:c.beach.places-G[t].2<ss[t].2<;>simp[x1,x2]<;>omega
 have hp1:Nat.beq 2 1=false:=rfl;by_cases hfit:CQ c (AW G ss t)=true
 ·have hx:0≤(AW G ss t).place∧(AW G ss t).place≤1000:=by simp only[CQ,Bool.and_eq_true,DC]at hfit;omega
  obtain⟨fr,q⟩:=A7K c G ss t hG ht hs hf hp hx t 0 (by omega);have q:=fun n m=>q n (m+101) (by omega);rw[List.drop_zero]at q;rw[hfit,Bool.true_and];rw[ef]at hfit;simp only[Bool.and_eq_true,Bool.not_eq_true',decide_eq_false_iff_not]at hfit;obtain⟨f1,f2,f3⟩:=hfit;rw[f1]at qi;rw[e1,e2,e3]at q;generalize (List.range t).all (fun q=>TU c (AW G ss t) (AW G ss q))=z at *;simp only[AD]at q⊢;cases z<;>(simp at q;simp[c74,AG,hlen,hgt,hst,hlt0,w0,w00,w1,w2,qi,f2,f3,A7,AF,AZ,BU,B5,BD,EZ,EK,C5,GD,hp1,q])
 ·have hfit:CQ c (AW G ss t)=false:=by simpa using hfit
  rw[hfit,Bool.false_and];rw[ef]at hfit;generalize GI ss[t].1 0 (c.beach.rows-1)=z1 at *;generalize x2:decide (ss[t].2<0)=z2 at *;generalize x3:decide (c.beach.places-G[t].2<ss[t].2)=z3 at *;simp only[AD];cases z1<;>cases z2<;>cases z3<;>first|(exact absurd hfit (by decide))|simp[c74,AG,hlen,hgt,hst,hlt0,w0,w00,w1,w2,qi,x2,x3,A7,AF,AZ,BU,B5,BD,EZ,EK,C5,GD,hp1]
end Go.Proofs.Tryz.Op
namespace Go.Wind
open Go.Proofs.Tryz.Op
def HU(c:AO)(G:List (Nat×Int))(ss:List (Int×Int)):Bool:=decide (ss.length=G.length)&&(decide (DU G≤(D5 c:Int))&&(List.range ss.length).all (HT c G ss))
theorem TV(c:AO)(f:Nat→Sp):∀n,DR c [] ((List.range n).map f)=(List.range n).all fun t=>CQ c (f t)&&((List.range t).map f).all (D0 c (f t))
 |0=>rfl
 |n+1=>by rw[List.range_succ,List.map_append,NF,TV c f n,List.all_append];simp[DR]
theorem iK{G:List (Nat×Int)}(hG:∀g∈G,1≤g.2∧g.2≤4){ss:List (Int×Int)}{t:Nat}(ht:t<G.length):1≤(AW G ss t).size:=by simp only[AW,List.getD_eq_getElem?_getD,List.getElem?_eq_getElem ht,Option.getD_some];exact(hG _ (List.getElem_mem ht)).1
theorem oB{c:AO}{G:List (Nat×Int)}(hG:∀g∈G,1≤g.2∧g.2≤4){ss:List (Int×Int)}{t:Nat}(ht:t<G.length):HT c G ss t=(CQ c (AW G ss t)&&((List.range t).map (AW G ss)).all (D0 c (AW G ss t))):=by
 rw[← uG (iK hG ht) fun y hy=>by
  obtain⟨q,hq,rfl⟩:=List.mem_map.1 hy;exact iK hG (by have:=List.mem_range.1 hq; omega)]
 unfold HT nS TU;rw[List.all_map];rfl
theorem SK{G:List (Nat×Int)}{ss:List (Int×Int)}(_:ss.length≤G.length):∀{l:List Sp},l.length=ss.length→(∀j (h1:j<l.length),l[j]=AW G ss j)→l=(List.range ss.length).map (AW G ss):=fun {l} h1 h2=>by apply List.ext_getElem (by simp[h1]);intro j g1 g2;rw[h2 j g1];simp
theorem oC{c:AO}{G:List (Nat×Int)}(hG:∀g∈G,1≤g.2∧g.2≤4)(ss:List (Int×Int)):HU c G ss=(decide (ss.length=G.length)&&(decide (DU G≤(D5 c:Int))&&DR c [] ((List.range ss.length).map (AW G ss)))):=by
 unfold HU;by_cases h:ss.length=G.length
 ·congr 2;rw[TV];have:∀l:List Nat,(∀t∈l,t<G.length)→l.all (HT c G ss)=l.all fun t=>CQ c (AW G ss t)&&((List.range t).map (AW G ss)).all (D0 c (AW G ss t)):=fun l hl=>by
   induction l with
   |nil=>rfl
   |cons t l ih=>rw[List.all_cons,List.all_cons,ih fun x hx=>hl x (by simp[hx]),oB hG (hl t (by simp))]
  exact this _ fun t ht=>by have:=List.mem_range.1 ht;omega
 ·simp[h]
theorem I6{c:AO}(hc:BZ c)(out:List Int):∀(k:Nat),k≤c.fams.length→∀g∈CB c.fams out k,g.1<c.fams.length∧1≤g.2∧g.2≤4
 |0,_,g,hg=>by cases hg
 |k+1,hk,g,hg=>by
  simp only[CB,List.mem_append]at hg;rcases hg with hg|hg
  ·exact I6 hc out k (by omega) g hg
  ·split at hg
   ·cases hg
   ·rw[List.mem_singleton]at hg;subst hg;have hk':k<c.fams.length:=by omega
    have e:c.fams.getD k ⟨0,0,false,false⟩=c.fams[k]:=by rw[List.getD_eq_getElem?_getD,List.getElem?_eq_getElem hk'];rfl
    have:=hc.fo _ (List.getElem_mem hk');simp only[e];exact⟨hk',this.1⟩
theorem R4{c:AO}:∀(k:Nat),k≤c.fams.length→DU (CB c.fams [] k)=((c.fams.take k).map RJ.size).sum
 |0,_=>rfl
 |k+1,hk=>by
  have hk':k<c.fams.length:=by omega
  have e:c.fams.getD k ⟨0,0,false,false⟩=c.fams[k]:=by rw[List.getD_eq_getElem?_getD,List.getElem?_eq_getElem hk'];rfl
  have ih:=R4 (c:=c) k (by omega);unfold DU at ih⊢;simp only[CB,List.not_mem_nil,decide_false,Bool.false_eq_true,if_false,e,List.map_append,List.sum_append,ih];rw[List.take_succ_eq_append_getElem hk',List.map_append,List.sum_append];rfl
theorem TW{c:AO}(hc:BZ c)(ss:List (Int×Int)):HU c (AY c []) ss=DL c ss:=by
 have hgl:(AY c []).length=c.fams.length:=C9 c;have hgm:∀g∈AY c [],1≤g.2∧g.2≤4:=fun g hg=>(I6 hc [] _ (Nat.le_refl _) g hg).2;rw[oC hgm,hgl];unfold DL;by_cases h:ss.length=c.fams.length
 ·rw[decide_eq_true h,Bool.true_and,Bool.true_and];have hp:DU (AY c [])=C7 (A2 c ss):=by rw[show C7 (A2 c ss)=(c.fams.map RJ.size).sum from TP h];have:=R4 (c:=c) c.fams.length (Nat.le_refl _);rw[List.take_length]at this;exact this
  have hl:A2 c ss=(List.range ss.length).map (AW (AY c []) ss):=by
   refine SK (by omega) (by rw[show(A2 c ss).length=c.fams.length from DO h,h]) fun j h1=>?_;have hj:j<c.fams.length:=by rwa [show(A2 c ss).length=c.fams.length from DO h]at h1
   have e:=KO (k:=0) (fs:=c.fams) (ss:=ss) j hj (by omega) h1;rw[Nat.zero_add]at e;have hg:=iH hj (by rw[hgl];exact hj);unfold AW;rw[List.getD_eq_getElem?_getD,List.getD_eq_getElem?_getD,List.getElem?_eq_getElem (by rw[hgl];exact hj),List.getElem?_eq_getElem (by omega:j<ss.length)];simp only[Option.getD_some,hg];exact e
  unfold JG;rw[hp,←hl,Bool.and_comm]
 ·simp[h]
def AF0(H:List (List JO))(r p:Nat):Int:=((H.getD r []).getD p ⟨0,0,0⟩).good
def BS0(H:List (List JO))(r p n:Nat):Int:=DJ (fun q=>AF0 H r (p+q)) n
def BGS(H:List (List JO))(good:Int)(r p n:Nat):Bool:=(List.range n).all fun q=>decide (good≤AF0 H r (p+q))
end Go.Wind
namespace Go.Proofs.Tryz.Op
def J7{α:Type}(l:List α):Bool:=!decide ((7:Int)<(l.length:Int))
def aD(c:AO):Bool:=(WD c.beach&&(J7 c.plan&&(J7 c.chairs&&!decide ((5:Int)<(c.fams.length:Int)))))&&(c.plan.all J7&&c.chairs.all J7)
theorem ACS{α:Type}{l:List α}:J7 l=true↔l.length≤7:=by simp only[J7,Bool.not_eq_true',decide_eq_false_iff_not];omega
theorem SL{c:AO}(h:aD c=true):WD c.beach=true∧c.plan.length≤7∧c.chairs.length≤7∧c.fams.length≤5∧(∀l∈c.plan,l.length≤7)∧∀l∈c.chairs,l.length≤7:=by simp only[aD,Bool.and_eq_true,ACS,List.all_eq_true,Bool.not_eq_true',decide_eq_false_iff_not]at h;exact⟨h.1.1,h.1.2.1,h.1.2.2.1,by omega,h.2.1,h.2.2⟩
theorem A7L(c:AO)(hl:c.plan.length≤100):∀(d k:Nat),k+d=c.plan.length→∃fr,BE fr 1=some (true,.ptr 0 1 0 0) ∧
  ∀n m,d<m→BF (AE Tryz.prog ann kn (n+100) 55) aU (ann 55 (BW aU)) m ⟨1,[(1,true,.ptr 0 1 0 0),(3,true,i k)],⟨[],[(1,0,.box (AD c))]⟩⟩ =
   if (c.plan.drop k).all J7=true then some (.exit 0,⟨1,fr,⟨[],[(1,0,.box (AD c))]⟩⟩) else some (.ret,⟨1,[(2,true,.bool false)],⟨[],[]⟩⟩)
 |0,k,hk=>by
  have:k=c.plan.length:=by omega
  subst this;rw[List.drop_length];refine⟨?fr,?g1,fun n m hm=>?g2⟩;case g2=>
   obtain⟨m,rfl⟩:∃m',m=m'+1:=⟨m-1,by omega⟩
   rw[AB]
   simp[AD]
   rfl
  case g1=>simp
 |d+1,k,hk=>by
  have hk':k<c.plan.length:=by omega
  have hw:=BM (k:=k) (by omega);obtain⟨fr,e1,ih⟩:=A7L c hl d (k+1) (by omega);rw[List.drop_eq_getElem_cons hk',List.all_cons];refine⟨fr,e1,fun n m hm=>?_⟩;obtain⟨m,rfl⟩:∃m',m=m'+1:=⟨m-1,by omega⟩;have ih:=ih n m (by omega);have es:J7 c.plan[k]=!decide ((7:Int)<(c.plan[k].length:Int)):=rfl;rw[es];generalize e1:decide ((7:Int)<(c.plan[k].length:Int))=z1;generalize (c.plan.drop (k+1)).all J7=z at ih⊢;rw[AB];simp only[AD]at ih⊢;cases z1<;>cases z<;>(simp at ih;simp[AM,hk',hw,e1,ih])
theorem A7M(c:AO)(hl:c.chairs.length≤100):∀(d k:Nat),k+d=c.chairs.length→∃fr,BE fr 1=some (true,.ptr 0 1 0 0) ∧
  ∀n m,d<m→BF (AE Tryz.prog ann kn (n+100) 55) aV (ann 55 (BW aV)) m ⟨1,[(1,true,.ptr 0 1 0 0),(4,true,i k)],⟨[],[(1,0,.box (AD c))]⟩⟩ =
   if (c.chairs.drop k).all J7=true then some (.exit 2,⟨1,fr,⟨[],[(1,0,.box (AD c))]⟩⟩) else some (.ret,⟨1,[(2,true,.bool false)],⟨[],[]⟩⟩)
 |0,k,hk=>by
  have:k=c.chairs.length:=by omega
  subst this;rw[List.drop_length];refine⟨?fr,?g1,fun n m hm=>?g2⟩;case g2=>
   obtain⟨m,rfl⟩:∃m',m=m'+1:=⟨m-1,by omega⟩
   rw[AB]
   simp[AD]
   rfl
  case g1=>simp
 |d+1,k,hk=>by
  have hk':k<c.chairs.length:=by omega
  have hw:=BM (k:=k) (by omega);obtain⟨fr,e1,ih⟩:=A7M c hl d (k+1) (by omega);rw[List.drop_eq_getElem_cons hk',List.all_cons];refine⟨fr,e1,fun n m hm=>?_⟩;obtain⟨m,rfl⟩:∃m',m=m'+1:=⟨m-1,by omega⟩;have ih:=ih n m (by omega);have es:J7 c.chairs[k]=!decide ((7:Int)<(c.chairs[k].length:Int)):=rfl;rw[es];generalize e1:decide ((7:Int)<(c.chairs[k].length:Int))=z1;generalize (c.chairs.drop (k+1)).all J7=z at ih⊢;rw[AB];simp only[AD]at ih⊢;cases z1<;>cases z<;>(simp at ih;simp[AS,hk',hw,e1,ih])
theorem AVN(n:Nat)(c:AO):A0 Tryz.prog kn (AE Tryz.prog ann kn (n+1400)) 18 [.agg (AD c)]=some (.bool (aD c)):=by
 rw[AP rfl,AR Tryz.func18 b18 rfl (by simp[AD,AJ,AM,AF,AS,A3,AU])];have qT:=fun n=>BFZ n c.beach;unfold aD;have es:J7 c.plan=!decide ((7:Int)<(c.plan.length:Int)):=rfl;have et:J7 c.chairs=!decide ((7:Int)<(c.chairs.length:Int)):=rfl;rw[es,et];generalize e1:decide ((7:Int)<(c.plan.length:Int))=z1;generalize e2:decide ((7:Int)<(c.chairs.length:Int))=z2;generalize e3:decide ((5:Int)<(c.fams.length:Int))=z3;generalize WD c.beach=z4 at *;simp only[AC]at qT;by_cases h:z4=true∧z1=false∧z2=false∧z3=false
 ·obtain⟨rfl,rfl,rfl,rfl⟩:=h;have h1:=of_decide_eq_false e1;have h2:=of_decide_eq_false e2;obtain⟨f1,g1,q1⟩:=A7L c (by omega) c.plan.length 0 (by omega);obtain⟨f2,g2,q2⟩:=A7M c (by omega) c.chairs.length 0 (by omega);have q1:=fun n m=>q1 n (m+100) (by omega);have q2:=fun n m=>q2 n (m+100) (by omega);rw[List.drop_zero]at q1 q2;generalize c.plan.all J7=y1 at *;generalize c.chairs.all J7=y2 at *;simp only[AD]at q1 q2⊢;cases y1<;>cases y2<;>(simp at q1 q2;simp[c18,AG,qT,e1,e2,e3,q1,q2,g1,g2,AS,A3,AU,AF,AM,AJ])
 ·simp only[AD]at⊢;cases z4<;>cases z1<;>cases z2<;>cases z3<;>first|exact absurd ⟨rfl,rfl,rfl,rfl⟩ h|simp[c18,AG,qT,e1,e2,e3,AS,A3,AU,AF,AM,AJ]
theorem A7N{k:Nat}(hk:k≤100000)(q g n:Nat):B9 Tryz.prog 22 k [[.vec 0 q g n]]=true:=by rw[CA (by simp) (by simp)];simp[maxLen];omega
theorem AMD(l k:Nat)(o:Option (Nat×A6))(ls:List (List Int)):(ls.map AM).map (List.map (BK l k o 3))=ls.map AM:=by rw[List.map_map];exact List.map_congr_left fun x _=>rfl
theorem A7O(ls:List (List Int)):(ls.map AM).map (List.map jY)=ls.map AM:=by rw[List.map_map];exact List.map_congr_left fun x _=>rfl
theorem SN(k γ:Nat)(h:List V)(t:List (List V)):pv k γ (h::t)=.vec 0 k γ (t.length+1):=rfl
theorem lD:sl []=.nil:=rfl
theorem uO(e:List V)(es:List (List V)):sl (e::es)=.list false (e::es):=rfl
theorem QT(l k:Nat)(o:Option (Nat×A6))(f:Nat)(es:List (List V)):BK l k o f (sl es)=sl es:=by cases f<;>cases es<;>rfl
theorem AVO(ls:List (List Int))(h1:ls.length≤100)(h2:∀l∈ls,l.length≤100):∀(d k c γ:Nat),k+d=ls.length→∃fr c' γ',fr=[(8,true,V.bool false),(7,true,i ls.length),(6,true,G5 ls),(5,true,i ls.length),(0,true,G5 ls),(3,true,pv 18 γ' (ls.map AM)),(4,true,i ls.length)]∧∀n m,d<m→BF (AE Tryz.prog ann kn (n+200) 20) aW (ann 20 (BW aW)) m ⟨c,[(0,true,G5 ls),(3,true,pv 18 γ ((ls.take k).map AM)),(4,true,i k)],⟨[],pl 18 γ 22 ((ls.take k).map AM)⟩⟩ =
  some (.exit 0,⟨c',fr,⟨[],pl 18 γ' 22 (ls.map AM)⟩⟩)
 |0,k,c,γ,hk=>by
  have:k=ls.length:=by omega
  subst this;rw[List.take_length];refine⟨_,c,γ,rfl,fun n m hm=>?_⟩;obtain⟨m,rfl⟩:∃m',m=m'+1:=⟨m-1,by omega⟩;rw[AB];simp
 |d+1,k,c,γ,hk=>by
  have hk':k<ls.length:=by omega
  have hw:=BM (k:=k) (by omega);have h3:=h2 _ (List.getElem_mem hk');have hst:(ls.take (k+1)).map AM=(ls.take k).map AM++[AM ls[k]]:=by rw[List.take_succ_eq_append_getElem hk',List.map_append];rfl
  have hRl:((ls.take k).map AM).length=k:=by rw[List.length_map,List.length_take];omega
  have hto:=fun o=>AMD 0 16 o (ls.take k);have hR1:∀e∈(ls.take k).map AM,e.length=1:=fun e he=>by obtain⟨l,_,rfl⟩:=List.mem_map.1 he;rfl
  have hwk:=A7O (ls.take k);have ha:=fun q g n=>A7N (k:=((ls.take k).map AM).length) (by omega) q g n;have hai:=BFV (k:=0) (l:=ls[k]) (by omega);generalize hLk:ls[k]=L at *;cases L with
  |nil=>
   obtain⟨fr,c',γ',e1,ih⟩:=AVO ls h1 h2 d (k+1) (c+1+1) (c+1) (by omega)
   refine⟨fr,c',γ',e1,fun n m hm=>?_⟩
   obtain⟨m,rfl⟩:∃m',m=m'+1:=⟨m-1,by omega⟩
   have ih:=ih n m (by omega)
   rw[hst]at ih
   generalize ls.map AM=fin at *
   generalize (ls.take k).map AM=R at *
   rw[AB]
   simp[AM]at hai
   cases R with
   |nil=>simp[AM,li,SN]at ih ha;simp[show c+1+1=c+2 from rfl,hk',hw,hLk,AM,AJ,ha,hai,ih,AZ,C5,GD,DW,BU,B5,BD,EZ,EK]
   |cons r R=>
    have hR2:=hR1 r (by simp)
    have hR3:=eq_true (fun e he=>hR1 e (List.mem_cons_of_mem r he):∀e∈R,e.length=1)
    simp[AM,li,SN]at ih ha hto hwk
    simp[show c+1+1=c+2 from rfl,hk',hw,hLk,AM,AJ,ha,hai,ih,hto,hwk,hR2,hR3,QT,SN,AZ,C5,GD,DW,BU,B5,BD,EZ,EK]
  |cons x L=>
   obtain⟨fr,c',γ',e1,ih⟩:=AVO ls h1 h2 d (k+1) (c+1+1) (c+1) (by omega)
   refine⟨fr,c',γ',e1,fun n m hm=>?_⟩
   obtain⟨m,rfl⟩:∃m',m=m'+1:=⟨m-1,by omega⟩
   have ih:=ih n m (by omega)
   rw[hst]at ih
   generalize ls.map AM=fin at *
   generalize (ls.take k).map AM=R at *
   rw[AB]
   simp[AM,AJ]at hai
   cases R with
   |nil=>simp[AM,AJ,li,SN]at ih ha;simp[show c+1+1=c+2 from rfl,hk',hw,hLk,AM,AJ,ha,hai,ih,AZ,C5,GD,DW,BU,B5,BD,EZ,EK]
   |cons r R=>
    have hR2:=hR1 r (by simp)
    have hR3:=eq_true (fun e he=>hR1 e (List.mem_cons_of_mem r he):∀e∈R,e.length=1)
    simp[AM,AJ,li,SN]at ih ha hto hwk
    simp[show c+1+1=c+2 from rfl,hk',hw,hLk,AM,AJ,ha,hai,ih,hto,hwk,hR2,hR3,QT,SN,AZ,C5,GD,DW,BU,B5,BD,EZ,EK]
theorem AME(n:Nat)(ls:List (List Int))(h1:ls.length≤100)(h2:∀l∈ls,l.length≤100):A0 Tryz.prog kn (AE Tryz.prog ann kn (n+400)) 69 [G5 ls]=some (sl (ls.map AM)):=by rw[AP rfl,AR Tryz.func69 b69 rfl (by simp[AJ,AM])];obtain⟨fr,c',γ',e1,q⟩:=AVO ls h1 h2 ls.length 0 0 0 (by omega);have q:=fun n m=>q n (m+200) (by omega);simp at q e1;simp[c69,AG,q,e1,AM,AJ]
theorem AMF(o:Option (Nat×A6))(ss:List (Int×Int)):(ss.map AF).map (List.map (BK 0 16 o 3))=ss.map AF:=by rw[List.map_map];exact List.map_congr_left fun x _=>rfl
theorem A7P(ss:List (Int×Int)):(ss.map AF).map (List.map jY)=ss.map AF:=by rw[List.map_map];exact List.map_congr_left fun x _=>rfl
theorem ARR(l k a b c n:Nat):BK l k none 3 (.vec a b c n)=.vec a b c n:=rfl
theorem wkI(n:Int):jY (i n)=i n:=rfl
theorem A7Q(ss:List (Int×Int))(h1:ss.length≤100):∀(d k c γ:Nat),k+d=ss.length→∃fr c' γ',fr=[(8,true,V.bool false),(7,true,i ss.length),(6,true,.list false (ss.map AF)),(5,true,i ss.length),(0,true,.list false (ss.map AF)),(3,true,pv 18 γ' (ss.map AF)),(4,true,i ss.length)]∧∀n m,d<m→BF (AE Tryz.prog ann kn (n+200) 20) aX (ann 20 (BW aX)) m ⟨c,[(0,true,.list false (ss.map AF)),(3,true,pv 18 γ ((ss.take k).map AF)),(4,true,i k)],⟨[],pl 18 γ 86 ((ss.take k).map AF)⟩⟩ =
  some (.exit 0,⟨c',fr,⟨[],pl 18 γ' 86 (ss.map AF)⟩⟩)
 |0,k,c,γ,hk=>by
  have:k=ss.length:=by omega
  subst this;rw[List.take_length];refine⟨_,c,γ,rfl,fun n m hm=>?_⟩;obtain⟨m,rfl⟩:∃m',m=m'+1:=⟨m-1,by omega⟩;rw[AB];simp
 |d+1,k,c,γ,hk=>by
  have hk':k<ss.length:=by omega
  have hw:=BM (k:=k) (by omega);have hst:(ss.take (k+1)).map AF=(ss.take k).map AF++[AF ss[k]]:=by rw[List.take_succ_eq_append_getElem hk',List.map_append];rfl
  have hRl:((ss.take k).map AF).length=k:=by rw[List.length_map,List.length_take];omega
  have hR1:∀e∈(ss.take k).map AF,e.length=2:=fun e he=>by obtain⟨l,_,rfl⟩:=List.mem_map.1 he;rfl
  have hto:=AMF none (ss.take k);have hwk:=A7P (ss.take k);have happ:=BGA (k:=((ss.take k).map AF).length) (x:=ss[k]) (by omega);have q:=fun n=>ALG n ss[k];obtain⟨fr,c',γ',e1,ih⟩:=A7Q ss h1 d (k+1) (c+1) c (by omega);refine⟨fr,c',γ',e1,fun n m hm=>?_⟩;obtain⟨m,rfl⟩:∃m',m=m'+1:=⟨m-1,by omega⟩;have ih:=ih n m (by omega);rw[hst]at ih;generalize (ss.take k).map AF=R at *;rw[AB];simp[AF]at q;cases R with
  |nil=>simp[AF,SN]at ih happ;simp[-List.map_map,hk',hw,AF,SN,q,happ,ih,ARR,wkI,AZ,C5,GD,DW,BU,B5,BD,EZ,EK]
  |cons r R=>
   have hR2:=hR1 r (by simp)
   have hR3:=eq_true (fun e he=>hR1 e (List.mem_cons_of_mem r he):∀e∈R,e.length=2)
   simp[AF,SN,-List.map_map]at ih happ hto hwk
   simp[-List.map_map,hk',hw,AF,SN,q,happ,ih,hR2,hR3,ARR,wkI,hto,hwk,AZ,C5,GD,DW,BU,B5,BD,EZ,EK]
theorem AMG(n:Nat)(ss:List (Int×Int))(h1:ss.length≤100):A0 Tryz.prog kn (AE Tryz.prog ann kn (n+400)) 22 [.list false (ss.map AF)]=some (sl (ss.map AF)):=by
 rw[AP rfl,AR Tryz.func22 b22 rfl (by simp[AF])];obtain⟨fr,c',γ',e1,q⟩:=A7Q ss h1 ss.length 0 0 0 (by omega);have q:=fun n m=>q n (m+200) (by omega);have hcl:∀e∈ss.map AF,∀v∈e,AH 8 v=true:=fun e he v hv=>by obtain⟨l,_,rfl⟩:=List.mem_map.1 he;simp only[AF,List.mem_cons,List.not_mem_nil,or_false]at hv;rcases hv with rfl|rfl<;>rfl
 generalize ss.map AF=R at *;simp at q e1;simp[c22,AG,q,e1];exact hcl
theorem A7R{k:Nat}{g:Nat×Int}(h:k≤1000):B9 Tryz.prog 135 k [[i (g.1:Int),i g.2]]=true:=by rw[CA (by simp) (by simp)];simp[maxLen];omega
theorem ACT{x N j:Nat}:((j:Int)∈F5 x N)↔j<N∧x.testBit j=true:=by
 unfold F5;rw[List.mem_map];constructor
 ·rintro ⟨i,hi,e⟩;rw[List.mem_filter,List.mem_range]at hi;have:i=j:=by omega
  subst this;exact hi
 ·intro h;exact⟨j,by rw[List.mem_filter,List.mem_range];exact h,rfl⟩
theorem AF1(x j:Nat):decide ((((x / 2 ^ j:Nat):Int).tmod 2)=0)=!x.testBit j:=by rw[←AON];have h:=Int.tmod_eq_emod_of_nonneg (a:=((x / 2 ^ j:Nat):Int)) (b:=2) (Int.natCast_nonneg _);rw[h];rcases Int.emod_two_eq ((x / 2 ^ j:Nat):Int)with h|h<;>rw[h]<;>rfl
def HV(c:AO)(x:Nat):List (Nat×Int):=AY c (F5 x c.fams.length)
theorem AVP(c:AO)(hl:c.fams.length≤30)(x:Nat):∀(d k g γ:Nat),k+d=c.fams.length→0<g→∃g' γ' fr,BE fr 5=some (true,pv 30 γ' ((HV c x).map A7)) ∧
  ∀n m,d<m→BF (AE Tryz.prog ann kn (n+100) 32) aY (ann 32 (BW aY)) m ⟨g,[(1,true,i x),(2,true,.ptr 0 2 0 0),(5,true,pv 30 γ ((CB c.fams (F5 x c.fams.length) k).map A7)),(6,true,i k)],⟨[],(2,0,.box (AD c))::pl 30 γ 135 ((CB c.fams (F5 x c.fams.length) k).map A7)⟩⟩ =
   some (.exit 0,⟨g',fr,⟨[],(2,0,.box (AD c))::pl 30 γ' 135 ((HV c x).map A7)⟩⟩)
 |0,k,g,γ,hk,hg=>by
  obtain rfl:k=c.fams.length:=by omega
  have e:CB c.fams (F5 x c.fams.length) c.fams.length=HV c x:=rfl;rw[e];generalize HV c x=R;refine⟨g,γ,?fr,?g1,fun n m hm=>?g2⟩;case g2=>
   obtain⟨m,rfl⟩:∃m',m=m'+1:=⟨m-1,by omega⟩
   rw[AB]
   simp[AD]
   rfl
  case g1=>simp
 |d+1,k,g,γ,hk,hg=>by
  have hk':k<c.fams.length:=by omega
  have hw:=BM (k:=k) (by omega);have hgl:=PB c.fams (F5 x c.fams.length) k;have hf:c.fams.getD k ⟨0,0,false,false⟩=c.fams[k]:=by rw[List.getD_eq_getElem?_getD,List.getElem?_eq_getElem hk'];rfl
  have hst:CB c.fams (F5 x c.fams.length) (k+1)=CB c.fams (F5 x c.fams.length) k++(if decide ((k:Int)∈F5 x c.fams.length)=true then[] else[(k,c.fams[k].size)]):=by rw[←hf];rfl
  have hin:decide ((k:Int)∈F5 x c.fams.length)=x.testBit k:=by rw[Bool.eq_iff_iff,decide_eq_true_eq,ACT];exact⟨fun h=>h.2,fun h=>⟨hk',h⟩⟩
  have happ:=A7R (k:=(CB c.fams (F5 x c.fams.length) k).length) (g:=(k,c.fams[k].size)) (by omega);have e1:=A1F (x:=x) (j:=k) (by omega);have e2:=AE3 (p:=k) (by omega);have hb:=AF1 x k;rw[hin]at hst;have hp1:Nat.beq 2 1=false:=rfl;generalize ((x / 2 ^ k:Nat):Int)=X at e1 hb;cases hbit:x.testBit k with
  |true=>
   rw[hbit]at hb hst
   rw[if_pos rfl,List.append_nil]at hst
   obtain⟨g',γ',fr,q1,ih⟩:=AVP c hl x d (k+1) g γ (by omega) hg
   refine⟨g',γ',fr,q1,fun n m hm=>?_⟩
   obtain⟨m,rfl⟩:∃m',m=m'+1:=⟨m-1,by omega⟩
   have ih:=ih n m (by omega)
   rw[hst]at ih
   generalize CB c.fams (F5 x c.fams.length) k=R at *
   rw[AB]
   simp only[AD]at ih⊢
   simp at hb
   cases R<;>(simp at ih;simp[hk',hw,yB,e1,e2,-WC,hb,ih])
  |false=>
   rw[hbit]at hb hst
   rw[if_neg (by decide)]at hst
   obtain⟨g',γ',fr,q1,ih⟩:=AVP c hl x d (k+1) (g+1) g (by omega) (by omega)
   refine⟨g',γ',fr,q1,fun n m hm=>?_⟩
   obtain⟨m,rfl⟩:∃m',m=m'+1:=⟨m-1,by omega⟩
   have ih:=ih n m (by omega)
   rw[hst]at ih
   generalize CB c.fams (F5 x c.fams.length) k=R at *
   rw[AB]
   simp only[AD]at ih⊢
   simp at hb
   cases R with
   |nil=>simp[A7,SN]at ih happ;simp[hk',hw,yB,e1,e2,-WC,hb,happ,AU,A7,SN,hp1,ih,AZ,C5,GD,DW,BU,B5,BD,EZ,EK]
   |cons r R=>simp[A7,SN]at ih happ;simp[hk',hw,yB,e1,e2,-WC,hb,happ,AU,A7,SN,hp1,ih,AZ,C5,GD,DW,BU,B5,BD,EZ,EK]
theorem oD(n:Nat)(c:AO)(hl:c.fams.length≤30)(x:Nat):A0 Tryz.prog kn (AE Tryz.prog ann kn (n+200)) 26 [.agg (AD c),i x]=some (sl ((HV c x).map A7)):=by
 rw[AP rfl,AR Tryz.func26 b26 rfl (by simp[AD,AJ,AM,AF,AS,A3,AU])];obtain⟨g',γ',fr,e1,q⟩:=AVP c hl x c.fams.length 0 1 0 (by omega) (by omega);have q:=fun n m=>q n (m+100) (by omega);have e0:CB c.fams (F5 x c.fams.length) 0=[]:=rfl;rw[e0]at q;have hcl:∀e∈(HV c x).map A7,∀v∈e,AH 8 v=true:=fun e he v hv=>by obtain⟨l,_,rfl⟩:=List.mem_map.1 he;simp only[A7,List.mem_cons,List.not_mem_nil,or_false]at hv;rcases hv with rfl|rfl<;>rfl
 generalize (HV c x).map A7=R at *;simp only[AD]at q⊢;simp at q e1;simp[c26,AG,q,e1];exact hcl
theorem WR{G:List (Nat×Int)}{ss:List (Int×Int)}{j q:Nat}(h:q<j):AW G (ss.take j) q=AW G ss q:=by unfold AW;rw[List.getD_eq_getElem?_getD,List.getD_eq_getElem?_getD,List.getD_eq_getElem?_getD,List.getElem?_take_of_lt h]
theorem uP{c:AO}{G:List (Nat×Int)}{ss:List (Int×Int)}{t:Nat}:HT c G (ss.take (t+1)) t=HT c G ss t:=by
 unfold HT;rw[WR (by omega)];congr 1;have:∀l:List Nat,(∀q∈l,q<t)→l.all (fun q=>TU c (AW G ss t) (AW G (ss.take (t+1)) q))=l.all fun q=>TU c (AW G ss t) (AW G ss q):=fun l hl=>by
  induction l with
  |nil=>rfl
  |cons x l ih=>rw[List.all_cons,List.all_cons,ih fun y hy=>hl y (by simp[hy]),WR (by have:=hl x (by simp);omega)]
 exact this _ fun q hq=>List.mem_range.1 hq
theorem oE{s:St}(l:List (Int×Int)){j:Nat}(hj:j≤l.length):CC Tryz.prog s 24 (.list false (l.map AF)) none (some (i j)) none=some (.list false ((l.map AF).take j)):=by have:=fF (P:=Tryz.prog) (s:=s) (T:=24) (e:=59) (es:=l.map AF) (h:=(j:Int)) (b:=false) (by kernel_rfl) (by simp) (by omega) (by rw[List.length_map];omega);simpa using this
theorem aE{P:Program}{s:St}{r:Operand→Option V}(T:TypeId)(x h:Operand):JR P (kL (.slice T x none (some h) none)) s r=(r x).bind fun a=>(r h).bind fun c=>CC P s T a none (some c) none:=by show((r x).bind fun a=>(some none).bind fun l=>((r h).map some).bind fun h=>(some none).bind fun m=>CC P s T a l h m)=_;cases r x<;>cases r h<;>rfl
theorem A7S(c:AO)(h1:0≤c.beach.rows∧c.beach.rows≤1000)(h2:0≤c.beach.places∧c.beach.places≤1000)(G:List (Nat×Int))(ss:List (Int×Int))(hG:ss.length=G.length)(hs:ss.length≤100)(hf:∀g∈G,g.1<c.fams.length∧0≤g.2∧g.2≤4):∀(d k:Nat),k+d=ss.length→(∀q,q<k→HT c G ss q=true)→∃fr,
  ∀n m,d<m→BF (AE Tryz.prog ann kn (n+1200) 34) aZ (ann 34 (BW aZ)) m ⟨1,[(1,true,.list false (G.map A7)),(2,true,.list false (ss.map AF)),(3,true,.ptr 0 3 0 0),(7,true,i k)],⟨[],[(3,0,.box (AD c))]⟩⟩ =
   if ((List.range ss.length).drop k).all (HT c G ss)=true then some (.exit 0,⟨1,fr,⟨[],[(3,0,.box (AD c))]⟩⟩) else some (.ret,⟨1,[(6,true,.bool false)],⟨[],[]⟩⟩)
 |0,k,hd,_=>by
  obtain rfl:k=ss.length:=by omega
  rw[List.drop_eq_nil_of_le (by rw[List.length_range];omega)];refine⟨?fr,fun n m hm=>?g9⟩;case g9=>
   obtain⟨m,rfl⟩:∃m',m=m'+1:=⟨m-1,by omega⟩
   rw[AB]
   simp[AD]
   rfl
 |d+1,k,hd,hok=>by
  have hk:k<ss.length:=by omega
  have hw:=BM (k:=k) (by omega);have qsl:=fun s=>oE (s:=s) ss (show k+1≤ss.length by omega);have hlt:(ss.take (k+1)).length=k+1:=by rw[List.length_take];omega
  have hp:∀q,q<k→0≤(AW G (ss.take (k+1)) q).place∧(AW G (ss.take (k+1)) q).place≤1000:=fun q hq=>by
   rw[WR (by omega)];have h:=hok q hq;simp only[HT,CQ,Bool.and_eq_true,DC]at h;have hg:q<G.length:=by omega
   have hsz:0≤(AW G ss q).size:=by simp only[AW,List.getD_eq_getElem?_getD,List.getElem?_eq_getElem hg,Option.getD_some];exact(hf _ (List.getElem_mem hg)).2.1
   omega
  have qS:=fun n=>ARQ n c h1 h2 G (ss.take (k+1)) k (by rw[hlt];omega) (by rw[hlt]) (by rw[hlt];omega) hf hp;rw[uP]at qS;rw[List.drop_eq_getElem_cons (by rw[List.length_range];omega),List.all_cons,List.getElem_range];cases hz:HT c G ss k with
  |false=>
   rw[hz]at qS
   refine⟨[],fun n m hm=>?_⟩
   obtain⟨m,rfl⟩:∃m',m=m'+1:=⟨m-1,by omega⟩
   rw[AB]
   simp only[AD]at qS⊢
   simp[←List.map_take]at qsl
   simp[←List.map_take,hk,hw,qsl,qS,AF,A7,AS,A3,AU,aE,NJ,FK]
  |true=>
   rw[hz]at qS
   obtain⟨fr,ih⟩:=A7S c h1 h2 G ss hG hs hf d (k+1) (by omega) (fun q hq=>by
    by_cases e:q=k
    ·rw[e];exact hz
    ·exact hok q (by omega))
   refine⟨fr,fun n m hm=>?_⟩
   obtain⟨m,rfl⟩:∃m',m=m'+1:=⟨m-1,by omega⟩
   have ih:=ih n m (by omega)
   generalize ((List.range ss.length).drop (k+1)).all (HT c G ss)=z at ih⊢
   rw[AB]
   simp only[AD]at qS ih⊢
   simp[←List.map_take]at qsl
   cases z<;>(simp at ih;simp[←List.map_take,hk,hw,qsl,qS,AF,A7,AS,A3,AU,aE,NJ,FK,ih])
theorem aF(n:Nat)(c:AO)(h1:0≤c.beach.rows∧c.beach.rows≤1000)(h2:0≤c.beach.places∧c.beach.places≤1000)(hch:c.chairs.length≤100)(hcr:∀l∈c.chairs,l.length≤100)(G:List (Nat×Int))(hG:G.length≤100)(ss:List (Int×Int))(hf:∀g∈G,g.1<c.fams.length∧0≤g.2∧g.2≤4):A0 Tryz.prog kn (AE Tryz.prog ann kn (n+1600)) 25 [.agg (AD c),.list false (G.map A7),.list false (ss.map AF)]=some (.bool (HU c G ss)):=by
 rw[AP rfl,AR Tryz.func25 b25 rfl (by simp[AD,AJ,AM,AF,AS,A3,AU,A7])];have qP:=fun n=>AMB n G hG (fun g hg=>(hf g hg).2);have qC:=fun n=>AFZ n c hch hcr;unfold HU;by_cases hl:ss.length=G.length
 ·have hl':(ss.length:Int)=(G.length:Int):=by omega
  obtain⟨fr,q⟩:=A7S c h1 h2 G ss hl (by omega) hf ss.length 0 (by omega) (fun q hq=>by omega);have q:=fun n m=>q n (m+101) (by omega);rw[List.drop_zero]at q;rw[decide_eq_true hl,Bool.true_and];generalize (List.range ss.length).all (HT c G ss)=z at *;generalize DU G=PG at *;generalize D5 c=CN at *;by_cases hp:PG≤(CN:Int)
  ·have hp':¬(CN:Int)<PG:=by omega
   rw[decide_eq_true hp,Bool.true_and];simp only[AD]at q qP qC⊢;cases z<;>(simp at q;simp[c25,AG,hl',qP,qC,hp',q,C5,AF,A7,AS,A3,AU])
  ·have hp':(CN:Int)<PG:=by omega
   rw[decide_eq_false hp,Bool.false_and];simp only[AD]at q qP qC⊢;simp[c25,AG,hl',qP,qC,hp',C5,AF,A7,AS,A3,AU]
 ·have hl':¬(ss.length:Int)=(G.length:Int):=by omega
  rw[decide_eq_false hl,Bool.false_and];simp only[AD]at qP qC⊢;simp[c25,AG,hl',C5,AF,A7,AS,A3,AU]
theorem ARS(c:AO)(hl:c.chairs.length≤100):∀(d k:Nat),k+d=c.chairs.length→∃fr,BE fr 1=some (true,.ptr 0 1 0 0) ∧
  ∀n m,d<m→BF (AE Tryz.prog ann kn (n+100) 76) U0 (ann 76 (BW U0)) m ⟨1,[(1,true,.ptr 0 1 0 0),(4,true,i k)],⟨[],[(1,0,.box (AD c))]⟩⟩ =
   if (c.chairs.drop k).all (fun l=>decide ((l.length:Int)=c.beach.places))=true then some (.exit 0,⟨1,fr,⟨[],[(1,0,.box (AD c))]⟩⟩) else some (.ret,⟨1,[(2,true,i 1)],⟨[],[]⟩⟩)
 |0,k,hk=>by
  have:k=c.chairs.length:=by omega
  subst this;rw[List.drop_length];refine⟨?fr,?g1,fun n m hm=>?g2⟩;case g2=>
   obtain⟨m,rfl⟩:∃m',m=m'+1:=⟨m-1,by omega⟩
   rw[AB]
   simp[AD]
   rfl
  case g1=>simp
 |d+1,k,hk=>by
  have hk':k<c.chairs.length:=by omega
  have hw:=BM (k:=k) (by omega);obtain⟨fr,e1,ih⟩:=ARS c hl d (k+1) (by omega);rw[List.drop_eq_getElem_cons hk',List.all_cons];refine⟨fr,e1,fun n m hm=>?_⟩;obtain⟨m,rfl⟩:∃m',m=m'+1:=⟨m-1,by omega⟩;have ih:=ih n m (by omega);generalize e1:decide ((c.chairs[k].length:Int)=c.beach.places)=z1;generalize (c.chairs.drop (k+1)).all (fun l=>decide ((l.length:Int)=c.beach.places))=z at ih⊢;rw[AB];simp only[AD]at ih⊢;cases z1<;>cases z<;>(simp at ih;simp[AS,hk',hw,e1,ih])
theorem ART(c:AO)(hl:c.fams.length≤100):∀(d k:Nat),k+d=c.fams.length→∃fr,
  ∀n m,d<m→BF (AE Tryz.prog ann kn (n+200) 76) U1 (ann 76 (BW U1)) m ⟨1,[(1,true,.ptr 0 1 0 0),(5,true,i k)],⟨[],[(1,0,.box (AD c))]⟩⟩ =
   if (c.fams.drop k).all LP=true then some (.exit 2,⟨1,fr,⟨[],[(1,0,.box (AD c))]⟩⟩) else some (.ret,⟨1,[(2,true,i 1)],⟨[],[]⟩⟩)
 |0,k,hk=>by
  have:k=c.fams.length:=by omega
  subst this;rw[List.drop_length];refine⟨?fr,fun n m hm=>?g2⟩;case g2=>
   obtain⟨m,rfl⟩:∃m',m=m'+1:=⟨m-1,by omega⟩
   rw[AB]
   simp[AD]
   rfl
 |d+1,k,hk=>by
  have hk':k<c.fams.length:=by omega
  have hw:=BM (k:=k) (by omega);obtain⟨fr,ih⟩:=ART c hl d (k+1) (by omega);rw[List.drop_eq_getElem_cons hk',List.all_cons];refine⟨fr,fun n m hm=>?_⟩;obtain⟨m,rfl⟩:∃m',m=m'+1:=⟨m-1,by omega⟩;have ih:=ih n m (by omega);have ef:LP c.fams[k]=(GI c.fams[k].size 1 4&&GI c.fams[k].good 0 5):=rfl;have q1:=fun n=>kIn n c.fams[k].size 1 4;have q2:=fun n=>kIn n c.fams[k].good 0 5;rw[ef];generalize GI c.fams[k].size 1 4=z1 at *;generalize GI c.fams[k].good 0 5=z2 at *;generalize (c.fams.drop (k+1)).all LP=z at ih⊢;rw[AB];simp only[AD]at ih⊢;cases z1<;>cases z2<;>cases z<;>(simp at ih;simp[AU,hk',hw,q1,q2,ih])
theorem AMH(n:Nat)(c:AO)(hw:∀l∈c.beach.winds,l.length≤100)(hp:c.plan.length≤100)(hch:c.chairs.length≤100):A0 Tryz.prog kn (AE Tryz.prog ann kn (n+2400)) 70 [.agg (AD c)]=some (i (DZ c)):=by
 rw[AP rfl,AR Tryz.func70 b70 rfl (by simp[AD,AJ,AM,AF,AS,A3,AU])];have qf:=fun n=>ALJ n c.beach hw;unfold DZ;by_cases a1:3<c.fams.length
 ·have e1:(3:Int)<(c.fams.length:Int):=by omega
  rw[if_pos a1];simp only[AD];simp[c70,AG,e1]
 rw[if_neg a1];have e1:¬(3:Int)<(c.fams.length:Int):=by omega
 by_cases a2:CV c.beach≠0
 ·rw[if_pos a2];simp only[AD,AC]at qf⊢;simp[c70,AG,e1,qf,a2,AM,AJ,AF]
 rw[if_neg a2];have a2:CV c.beach=0:=by simpa using a2
 have hb:=U8 a2;have qp:=fun n=>ALA n c.beach hb c.plan hp;have qt:=fun n=>iM n c.beach hb;rw[a2]at qf;by_cases a3:EF c.beach c.plan=false
 ·rw[if_pos a3];rw[a3]at qp;simp only[AD,AC]at qf qp⊢;simp[c70,AG,e1,qf,qp,AM,AJ,AF]
 rw[if_neg a3];have a3:EF c.beach c.plan=true:=by simpa using a3
 rw[a3]at qp;by_cases a4:BO c.beach=[]
 ·rw[if_pos a4];rw[a4]at qt;simp only[AD,AC]at qf qp qt⊢;simp at qt;simp[c70,AG,e1,qf,qp,qt,AM,AJ,AF]
 rw[if_neg a4];have a4':¬((BO c.beach).length:Int)=0:=fun h=>a4 (List.eq_nil_of_length_eq_zero (by omega));by_cases a5:(c.chairs.length:Int)=c.beach.rows
 ·have ec:HQ c=c.chairs.all (fun l=>decide ((l.length:Int)=c.beach.places)):=by unfold HQ;rw[decide_eq_true a5,Bool.true_and]
  rw[ec];obtain⟨f1,g1,q1⟩:=ARS c hch c.chairs.length 0 (by omega);obtain⟨f2,q2⟩:=ART c (by omega) c.fams.length 0 (by omega);have q1:=fun n m=>q1 n (m+101) (by omega);have q2:=fun n m=>q2 n (m+101) (by omega);rw[List.drop_zero]at q1 q2;generalize c.chairs.all (fun l=>decide ((l.length:Int)=c.beach.places))=y1 at *;generalize c.fams.all LP=y2 at *;generalize BO c.beach=T at *;simp only[AD,AC]at qf qp qt q1 q2⊢;cases y1<;>cases y2<;>(simp at q1 q2;simp[c70,AG,e1,qf,qp,qt,a4,a4',a5,q1,q2,g1,AM,AJ,AF])
 ·have ec:HQ c=false:=by unfold HQ;rw[decide_eq_false a5,Bool.false_and]
  rw[if_pos ec];generalize BO c.beach=T at *;simp only[AD,AC]at qf qp qt⊢;simp[c70,AG,e1,qf,qp,qt,a4,a4',a5,AM,AJ,AF]
theorem AMI(l k:Nat)(o:Option (Nat×A6))(ls:List (List Bool)):(ls.map AS).map (List.map (BK l k o 3))=ls.map AS:=by rw[List.map_map];exact List.map_congr_left fun x _=>rfl
theorem A7T(ls:List (List Bool)):(ls.map AS).map (List.map jY)=ls.map AS:=by rw[List.map_map];exact List.map_congr_left fun x _=>rfl
theorem MP{P:Program}{fr:Fr}{s:St}(e d c:Nat)(ys:List (List V))(h:B9 P e 0 ys=true):xY P e d c fr s .nil ys=some (⟨c+1,(d,true,.vec s.up.length d c ys.length)::fr,s.put s.up.length d c (.vec e ys)⟩,[(s.up.length,d),(s.up.length,d+GD)]):=by unfold xY;simp[JA,h]
theorem A7U{k:Nat}{l:List Bool}(h:k+l.length≤100000):B9 Tryz.prog 4 k (l.map A3)=true:=by rw[CA (by simp) (by simp)];simp[maxLen,A3];omega
theorem A7V{k:Nat}(hk:k≤100000)(q g n:Nat):B9 Tryz.prog 97 k [[.vec 0 q g n]]=true:=by rw[CA (by simp) (by simp)];simp[maxLen];omega
theorem A7W{k:Nat}{l:List RJ}(h:k+l.length≤100000):B9 Tryz.prog 94 k (l.map AU)=true:=by rw[CA (by simp) (by simp)];simp[maxLen,AU];omega
abbrev bxC(b:AK)(p:List (List Int))(v w:V):A6:=.box (IJ b++[sl (p.map AM),v,w])
theorem AVQ(c:AO)(h1:c.chairs.length≤100)(h2:∀l∈c.chairs,l.length≤100)(cs2:List V)(hcs:∀o,cs2.map (BK 0 28 o 3)=cs2):∀(d k g γ:Nat),k+d=c.chairs.length→2<g→∃g' γ',g≤g'∧∀n m,d<m→BF (AE Tryz.prog ann kn (n+200) 59) bO (ann 59 (BW bO)) m ⟨g,[(1,true,.ptr 0 1 0 0),(2,true,.ptr 0 2 1 0),(3,true,.ptr 0 3 2 0),(4,true,i k)],⟨[],(1,0,.box (AD c))::(2,1,.box cs2)::(3,2,bxC c.beach c.plan (pv 30 γ ((c.chairs.take k).map AS)) .nil)::pl 30 γ 97 ((c.chairs.take k).map AS)⟩⟩ =
  some (.exit 0,⟨g',[(18,true,.bool false),(17,true,i c.chairs.length),(16,true,.list false (c.chairs.map AS)),(15,true,.ptr 0 1 0 10),(14,true,i c.chairs.length),(1,true,.ptr 0 1 0 0),(2,true,.ptr 0 2 1 0),(3,true,.ptr 0 3 2 0),(4,true,i c.chairs.length)],⟨[],(1,0,.box (AD c))::(2,1,.box cs2)::(3,2,bxC c.beach c.plan (pv 30 γ' (c.chairs.map AS)) .nil)::pl 30 γ' 97 (c.chairs.map AS)⟩⟩)
 |0,k,g,γ,hk,hg=>by
  have:k=c.chairs.length:=by omega
  subst this;rw[List.take_length];refine⟨g,γ,Nat.le_refl _,fun n m hm=>?_⟩;obtain⟨m,rfl⟩:∃m',m=m'+1:=⟨m-1,by omega⟩;rw[AB];simp only[AD,bxC,IJ];cases c.chairs<;>simp
 |d+1,k,g,γ,hk,hg=>by
  have hk':k<c.chairs.length:=by omega
  have hw:=BM (k:=k) (by omega);have h3:=h2 _ (List.getElem_mem hk');have hst:(c.chairs.take (k+1)).map AS=(c.chairs.take k).map AS++[AS c.chairs[k]]:=by rw[List.take_succ_eq_append_getElem hk',List.map_append];rfl
  have hRl:((c.chairs.take k).map AS).length=k:=by rw[List.length_map,List.length_take];omega
  have hto:=fun o=>AMI 0 28 o (c.chairs.take k);have hwk:=A7T (c.chairs.take k);have hR1:∀e∈(c.chairs.take k).map AS,e.length=1:=fun e he=>by obtain⟨l,_,rfl⟩:=List.mem_map.1 he;rfl
  have ha:=fun q g n=>A7V (k:=((c.chairs.take k).map AS).length) (by omega) q g n;have hai:=A7U (k:=0) (l:=c.chairs[k]) (by omega);generalize hLk:c.chairs[k]=L at *;cases L with
  |nil=>
   obtain⟨g',γ',hgg,ih⟩:=AVQ c h1 h2 cs2 hcs d (k+1) (g+1+1) (g+1) (by omega) (by omega)
   refine⟨g',γ',by omega,fun n m hm=>?_⟩
   obtain⟨m,rfl⟩:∃m',m=m'+1:=⟨m-1,by omega⟩
   have ih:=ih n m (by omega)
   rw[hst]at ih
   generalize (c.chairs.take k).map AS=R at *
   rw[AB]
   simp only[AD,bxC,IJ]at ih⊢
   simp[AS]at hai
   cases R with
   |nil=>simp[AS,lb,SN]at ih ha;simp[show g+1+1=g+2 from rfl,hk',hw,hLk,AS,A3,ha,hai,hcs,QT,ih,AZ,C5,GD,MP,BU,B5,BD,EZ,EK,show 2<g+2 by omega]
   |cons r R=>
    have hR2:=hR1 r (by simp)
    have hR3:=eq_true (fun e he=>hR1 e (List.mem_cons_of_mem r he):∀e∈R,e.length=1)
    simp[AS,lb,SN]at ih ha hto hwk
    simp[show g+1+1=g+2 from rfl,hk',hw,hLk,AS,A3,ha,hai,hcs,ih,hto,hwk,hR2,hR3,QT,SN,AZ,C5,GD,MP,BU,B5,BD,EZ,EK,show 2<g+2 by omega]
  |cons x L=>
   obtain⟨g',γ',hgg,ih⟩:=AVQ c h1 h2 cs2 hcs d (k+1) (g+1+1) (g+1) (by omega) (by omega)
   refine⟨g',γ',by omega,fun n m hm=>?_⟩
   obtain⟨m,rfl⟩:∃m',m=m'+1:=⟨m-1,by omega⟩
   have ih:=ih n m (by omega)
   rw[hst]at ih
   generalize (c.chairs.take k).map AS=R at *
   rw[AB]
   simp only[AD,bxC,IJ]at ih⊢
   simp[AS,A3]at hai
   cases R with
   |nil=>simp[AS,A3,lb,SN]at ih ha;simp[show g+1+1=g+2 from rfl,hk',hw,hLk,AS,A3,ha,hai,hcs,QT,ih,AZ,C5,GD,MP,BU,B5,BD,EZ,EK,show 2<g+2 by omega]
   |cons r R=>
    have hR2:=hR1 r (by simp)
    have hR3:=eq_true (fun e he=>hR1 e (List.mem_cons_of_mem r he):∀e∈R,e.length=1)
    simp[AS,A3,lb,SN]at ih ha hto hwk
    simp[show g+1+1=g+2 from rfl,hk',hw,hLk,AS,A3,ha,hai,hcs,ih,hto,hwk,hR2,hR3,QT,SN,AZ,C5,GD,MP,BU,B5,BD,EZ,EK,show 2<g+2 by omega]
theorem A7X(c:AO)(h1:c.fams.length≤100)(cs2:List V)(γ3:Nat)(R:List (List V)):∀(d k g γ:Nat),k+d=c.fams.length→2<g→∃g' γ',g≤g'∧∀n m,d<m→BF (AE Tryz.prog ann kn (n+200) 59) bP (ann 59 (BW bP)) m ⟨g,[(1,true,.ptr 0 1 0 0),(2,true,.ptr 0 2 1 0),(3,true,.ptr 0 3 2 0),(5,true,i k)],⟨[],(1,0,.box (AD c))::(2,1,.box cs2)::(3,2,bxC c.beach c.plan (pv 30 γ3 R) (pv 56 γ ((c.fams.take k).map AU)))::(pl 30 γ3 97 R++pl 56 γ 94 ((c.fams.take k).map AU))⟩⟩ =
  some (.exit 2,⟨g',[(36,true,.bool false),(35,true,i c.fams.length),(34,true,.list false (c.fams.map AU)),(33,true,.ptr 0 1 0 11),(32,true,i c.fams.length),(1,true,.ptr 0 1 0 0),(2,true,.ptr 0 2 1 0),(3,true,.ptr 0 3 2 0),(5,true,i c.fams.length)],⟨[],(1,0,.box (AD c))::(2,1,.box cs2)::(3,2,bxC c.beach c.plan (pv 30 γ3 R) (pv 56 γ' (c.fams.map AU)))::(pl 30 γ3 97 R++pl 56 γ' 94 (c.fams.map AU))⟩⟩)
 |0,k,g,γ,hk,hg=>by
  have:k=c.fams.length:=by omega
  subst this;rw[List.take_length];refine⟨g,γ,Nat.le_refl _,fun n m hm=>?_⟩;obtain⟨m,rfl⟩:∃m',m=m'+1:=⟨m-1,by omega⟩;rw[AB];simp only[AD,bxC,IJ];cases R<;>cases c.fams<;>simp
 |d+1,k,g,γ,hk,hg=>by
  have hk':k<c.fams.length:=by omega
  have hw:=BM (k:=k) (by omega);have hst:(c.fams.take (k+1)).map AU=(c.fams.take k).map AU++[AU c.fams[k]]:=by rw[List.take_succ_eq_append_getElem hk',List.map_append];rfl
  have hRl:((c.fams.take k).map AU).length=k:=by rw[List.length_map,List.length_take];omega
  have hS1:∀e∈(c.fams.take k).map AU,e.length=4:=fun e he=>by obtain⟨l,_,rfl⟩:=List.mem_map.1 he;rfl
  have ha:=A7W (k:=((c.fams.take k).map AU).length) (l:=[c.fams[k]]) (by rw[hRl];simp;omega);obtain⟨g',γ',hgg,ih⟩:=A7X c h1 cs2 γ3 R d (k+1) (g+1+1) (g+1) (by omega) (by omega);refine⟨g',γ',by omega,fun n m hm=>?_⟩;obtain⟨m,rfl⟩:∃m',m=m'+1:=⟨m-1,by omega⟩;have ih:=ih n m (by omega);rw[hst]at ih;generalize (c.fams.take k).map AU=S at *;generalize hLk:c.fams[k]=f at *;rw[AB];simp only[AD,bxC,IJ]at ih⊢;cases S with
  |nil=>cases R<;>(simp[AU,SN]at ih ha;simp[hk',hw,hLk,AU,SN,ha,ih,AZ,C5,GD,MP,BU,B5,BD,EZ,EK,show 0<g by omega,show 1<g by omega,show 2<g by omega])
  |cons q S=>
   have hS2:=hS1 q (by simp)
   have hS3:=eq_true (fun e he=>hS1 e (List.mem_cons_of_mem q he):∀e∈S,e.length=4)
   cases R<;>(simp[AU,SN]at ih ha;simp[hk',hw,hLk,AU,SN,ha,ih,hS2,hS3,AZ,C5,GD,MP,BU,B5,BD,EZ,EK,show 0<g by omega,show 1<g by omega,show 2<g by omega])
def QU(c:AO):List V:=IJ c.beach++[sl (c.plan.map AM),sl (c.chairs.map AS),sl (c.fams.map AU)]
theorem AVR(n:Nat)(c:AO)(ht:aD c=true):A0 Tryz.prog kn (AE Tryz.prog ann kn (n+900)) 21 [.agg (AD c)]=some (.agg (QU c)):=by
 rw[AP rfl,AR Tryz.func21 b21 rfl (by simp[AD,AJ,AM,AF,AS,A3,AU])];obtain⟨t1,t2,t3,t4,t5,t6⟩:=SL ht;simp only[WD,Bool.and_eq_true,Bool.not_eq_true',Bool.or_eq_false_iff,Bool.not_eq_false',decide_eq_false_iff_not]at t1;obtain⟨⟨⟨⟨⟨u1,u2⟩,u3⟩,u4⟩,u5⟩,_⟩:=t1;obtain⟨u6,u7⟩:=YA u3;have qB:=fun n=>A1M n c.beach (by omega) (by omega) (by omega) (fun l hl=>by have:=u7 l hl;omega) (by omega) (by omega);have qL:=fun n=>AME n c.plan (by omega) (fun l hl=>by have:=t5 l hl;omega);have hz:∀o,([i 0,i 0,i 0,i 0,.nil,.nil,.nil,.nil,.nil,.nil,.nil,.nil]:List V).map (BK 0 28 o 3)=[i 0,i 0,i 0,i 0,.nil,.nil,.nil,.nil,.nil,.nil,.nil,.nil]:=fun o=>rfl;obtain⟨g1,γ1,h1,q1⟩:=AVQ c (by omega) (fun l hl=>by have:=t6 l hl;omega) _ hz c.chairs.length 0 3 0 (by omega) (by omega);obtain⟨g2,γ2,h2,q2⟩:=A7X c (by omega) [i 0,i 0,i 0,i 0,.nil,.nil,.nil,.nil,.nil,.nil,.nil,.nil] γ1 (c.chairs.map AS) c.fams.length 0 g1 0 (by omega) (by omega);have q1:=fun n m=>q1 n (m+100) (by omega);have q2:=fun n m=>q2 n (m+100) (by omega);rw[show(c.chairs.take 0).map AS=[] from rfl]at q1;rw[show(c.fams.take 0).map AU=[] from rfl]at q2;have hg2:1<g2:=by omega
 have c1:∀e∈c.chairs.map AS,∀v∈e,AH 7 v=true:=fun e he v hv=>by obtain⟨l,_,rfl⟩:=List.mem_map.1 he;simp only[AS,List.mem_cons,List.not_mem_nil,or_false]at hv;subst hv;simp[A3]
 have c2:∀e∈c.fams.map AU,∀v∈e,AH 7 v=true:=fun e he v hv=>by obtain⟨l,_,rfl⟩:=List.mem_map.1 he;simp only[AU,List.mem_cons,List.not_mem_nil,or_false]at hv;rcases hv with rfl|rfl|rfl|rfl<;>rfl
 unfold QU;simp only[AD,AC,bxC,IJ]at q1 q2 qB qL⊢;generalize c.chairs.map AS=R at *;generalize c.fams.map AU=S at *;cases R with
 |nil=>
  cases S with
  |nil=>
   simp at q1 q2
   simp[c21,AG,qB,qL,q1,q2,hg2,SN,lD,uO,AZ,C5,GD,BU,B5,BD,EZ,EK]
  |cons t S=>
   have s1:=eq_true (c2 t (by simp))
   have s2:=eq_true (fun e he=>c2 e (List.mem_cons_of_mem t he):∀e∈S,∀v∈e,AH 7 v=true)
   simp[SN]at q1 q2
   simp[c21,AG,qB,qL,q1,q2,s1,s2,hg2,SN,lD,uO,AZ,C5,GD,BU,B5,BD,EZ,EK]
 |cons r R=>
  have r1:=eq_true (c1 r (by simp))
  have r2:=eq_true (fun e he=>c1 e (List.mem_cons_of_mem r he):∀e∈R,∀v∈e,AH 7 v=true)
  cases S with
  |nil=>
   simp[SN]at q1 q2
   simp[c21,AG,qB,qL,q1,q2,r1,r2,hg2,SN,lD,uO,AZ,C5,GD,BU,B5,BD,EZ,EK]
  |cons t S=>
   have s1:=eq_true (c2 t (by simp))
   have s2:=eq_true (fun e he=>c2 e (List.mem_cons_of_mem t he):∀e∈S,∀v∈e,AH 7 v=true)
   simp[SN]at q1 q2
   simp[c21,AG,qB,qL,q1,q2,r1,r2,s1,s2,hg2,SN,lD,uO,AZ,C5,GD,BU,B5,BD,EZ,EK]
end Go.Proofs.Tryz.Op
