/- Contracts of the reference: People, Chairs, Minds, Groups. No condition but small numbers. -/
import Derived.Test.YthhdhbalenanjaaGreatC1
import Derived.Test.YthhdhbalenanjaaGreatW1
import Derived.Test.YthhdhbalenanjaaGreatFz
import Derived.Test.YthhdhbalenanjaaGreatA1
import Derived.Test.YthhdhbalenanjaaGreatL
import Derived.Test.YthhdhbalenanjaaGreatV1
import Derived.Test.YthhdhbalenanjaaGreatEa
set_option maxRecDepth 100000
set_option linter.unusedSimpArgs false
open Go Go.Pg Go.Proofs Go.Wind
namespace Go.Wind
def DA(G:List (Nat×Int)):Int:=(G.map (·.2)).sum
theorem fD{G:List (Nat×Int)}{k:Nat}(h:k<G.length):DA (G.take (k+1))=DA (G.take k)+G[k].2:=by unfold DA;rw[List.take_succ_eq_append_getElem h,List.map_append,List.sum_append];simp
theorem XJ:∀{G:List (Nat×Int)},(∀g∈G,0≤g.2∧g.2≤4)→0≤DA G∧DA G≤4*G.length
 |[],_=>by simp[DA]
 |g::G,h=>by have ih:=XJ (G:=G) fun x hx=>h x (by simp[hx]);have h1:=h g (by simp);simp only[DA,List.map_cons,List.sum_cons,List.length_cons]at ih⊢;omega
end Go.Wind
namespace Go.Proofs.Tryz.Op
theorem A0E(G:List (Nat×Int))(hl:G.length≤100)(hg:∀g∈G,0≤g.2∧g.2≤4):∀(d k:Nat),k+d=G.length→∀n m,d<m→BC (AE Tryz.prog ann kn (n+100) 19) XU (ann 19 (BR XU)) m ⟨0,[(0,true,.list false (G.map CD)),(3,true,i (DA (G.take k))),(4,true,i k)],⟨[],[]⟩⟩ =
  some (.exit 0,⟨0,[(8,true,.bool false),(7,true,i G.length),(6,true,.list false (G.map CD)),(5,true,i G.length),(0,true,.list false (G.map CD)),(3,true,i (DA G)),(4,true,i G.length)],⟨[],[]⟩⟩)
 |0,k,hk,n,m+1,hm=>by
  obtain rfl:k=G.length:=by omega
  rw[List.take_length,AC];simp
 |d+1,k,hk,n,m+1,hm=>by
  have hk':k<G.length:=by omega
  have hw:=BH (k:=k) (by omega);have h1:=hg G[k] (List.getElem_mem hk');have h2:=XJ (G:=G.take k) fun x hx=>hg x (List.mem_of_mem_take hx);have h3:(G.take k).length≤100:=by rw[List.length_take];omega
  have hwp:IntKind.i64.wrap (DA (G.take k)+G[k].2)=DA (G.take k)+G[k].2:=AV (by omega) (by omega);have ih:=A0E G hl hg d (k+1) (by omega) n m (by omega);rw[fD hk']at ih;generalize DA (G.take k)=S at *;generalize DA G=SS at *;rw[AC];simp at ih;simp[hk',hw,hwp,CD,ih]
theorem AG1(n:Nat)(G:List (Nat×Int))(hl:G.length≤100)(hg:∀g∈G,0≤g.2∧g.2≤4):AW Tryz.prog kn (AE Tryz.prog ann kn (n+300)) 72 [.list false (G.map CD)]=some (i (DA G)):=by rw[AQ rfl,AP Tryz.func72 b72 rfl (by simp[CD])];have q:=fun n m=>A0E G hl hg G.length 0 (by omega) n (m+101) (by omega);rw[show DA (G.take 0)=0 from rfl]at q;generalize DA G=S at *;simp at q;simp[c72,AF,q]
theorem A0F(c:A3)(r:Nat)(hr:r<c.chairs.length)(hl:c.chairs[r].length≤100)(N:Nat)(hN:N≤100000):∀(d j:Nat),j+d=c.chairs[r].length→∃fr,BZ fr 1=some (true,.ptr 0 1 0 0)∧BZ fr 3=some (true,i ((N+c.chairs[r].count true:Nat):Int))∧BZ fr 4=some (true,i r)∧∀n m,d<m→BC (AE Tryz.prog ann kn (n+200) 34) XV (ann 34 (BR XV)) m ⟨1,[(1,true,.ptr 0 1 0 0),(3,true,i ((N+(c.chairs[r].take j).count true:Nat):Int)),(4,true,i r),(5,true,i j)],⟨[],[(1,0,.box (AD c))]⟩⟩ =
  some (.exit 2,⟨1,fr,⟨[],[(1,0,.box (AD c))]⟩⟩)
 |0,j,hd=>by
  obtain rfl:j=c.chairs[r].length:=by omega
  rw[List.take_length];refine⟨?fr,?g1,?g3,?g4,fun n m hm=>?g2⟩;case g2=>
   obtain⟨m,rfl⟩:∃m',m=m'+1:=⟨m-1,by omega⟩
   rw[AC]
   simp[AD,hr,AR]
   rfl
  case g1=>simp
  case g3=>simp
  case g4=>simp
 |d+1,j,hd=>by
  have hj:j<c.chairs[r].length:=by omega
  have hw:=BH (k:=j) (by omega);obtain⟨fr,g1,g3,g4,ih⟩:=A0F c r hr hl N hN d (j+1) (by omega);refine⟨fr,g1,g3,g4,fun n m hm=>?_⟩;obtain⟨m,rfl⟩:∃m',m=m'+1:=⟨m-1,by omega⟩;have ih:=ih n m (by omega);rw[XG _ hj]at ih;have hcl:(c.chairs[r].take j).count true≤100:=by have:=List.count_le_length (a:=true) (l:=c.chairs[r].take j);rw[List.length_take]at this;omega
  generalize (c.chairs[r].take j).count true=C at *;have hwC2:IntKind.i64.wrap ((N:Int)+(C:Int)+1)=((N:Int)+((C:Int)+1)):=by rw[AV (by omega) (by omega)];omega
  rw[AC];simp only[AD]at ih⊢;cases hz:c.chairs[r][j]with
  |true=>
   rw[hz,if_pos rfl]at ih
   simp at ih
   simp[hr,hj,hw,hz,AR,A0,hwC2,ih]
  |false=>
   rw[hz,if_neg (by decide),Nat.add_zero]at ih
   simp at ih
   simp[hr,hj,hw,hz,AR,A0,ih]
theorem A0G(c:A3)(hl:c.chairs.length≤100)(hr:∀l∈c.chairs,l.length≤100):∀(d r N:Nat),r+d=c.chairs.length→N≤100*r→∃fr,BZ fr 3=some (true,i ((N+((c.chairs.drop r).map fun l=>l.count true).sum:Nat):Int))∧∀n m,d<m→BC (AE Tryz.prog ann kn (n+400) 34) XW (ann 34 (BR XW)) m ⟨1,[(1,true,.ptr 0 1 0 0),(3,true,i N),(4,true,i r)],⟨[],[(1,0,.box (AD c))]⟩⟩ =
  some (.exit 0,⟨1,fr,⟨[],[(1,0,.box (AD c))]⟩⟩)
 |0,r,N,hd,hN=>by
  obtain rfl:r=c.chairs.length:=by omega
  refine⟨?fr,?g3,fun n m hm=>?g2⟩;case g2=>
   obtain⟨m,rfl⟩:∃m',m=m'+1:=⟨m-1,by omega⟩
   rw[AC]
   simp[AD]
   rfl
  case g3=>simp
 |d+1,r,N,hd,hN=>by
  have hj:r<c.chairs.length:=by omega
  have hw:=BH (k:=r) (by omega);have hlj:=hr c.chairs[r] (List.getElem_mem hj);obtain⟨f1,g1,g3,g4,q⟩:=A0F c r hj hlj N (by omega) c.chairs[r].length 0 (by omega);have q:=fun n m=>q n (m+101) (by omega);have hcl:=List.count_le_length (a:=true) (l:=c.chairs[r]);obtain⟨fr,e3,ih⟩:=A0G c hl hr d (r+1) (N+c.chairs[r].count true) (by omega) (by omega);have hs:N+c.chairs[r].count true+((c.chairs.drop (r+1)).map fun l=>l.count true).sum=N+((c.chairs.drop r).map fun l=>l.count true).sum:=by rw[List.drop_eq_getElem_cons hj,List.map_cons,List.sum_cons];omega
  rw[hs]at e3;refine⟨fr,e3,fun n m hm=>?_⟩;obtain⟨m,rfl⟩:∃m',m=m'+1:=⟨m-1,by omega⟩;have ih:=ih n m (by omega);generalize c.chairs[r].count true=C at *;simp only[List.take_zero,List.count_nil,Nat.add_zero]at q;rw[AC];simp only[AD]at ih q⊢;simp at ih q g3;simp[hj,hw,AR,q,g1,g3,g4,ih]
theorem AAQ(n:Nat)(c:A3)(hl:c.chairs.length≤100)(hr:∀l∈c.chairs,l.length≤100):AW Tryz.prog kn (AE Tryz.prog ann kn (n+600)) 73 [.agg (AD c)]=some (i (GF c)):=by rw[AQ rfl,AP Tryz.func73 b73 rfl (by simp[AD,AH,AM,AG,AR,A0,AO])];obtain⟨fr,g3,q⟩:=A0G c hl hr c.chairs.length 0 0 (by omega) (by omega);have q:=fun n m=>q n (m+101) (by omega);have e:((c.chairs.drop 0).map fun l=>l.count true).sum=GF c:=rfl;rw[e,Nat.zero_add]at g3;generalize GF c=T at *;simp only[AD]at q⊢;simp at q g3;simp[c73,AF,q,g3]
theorem AG2(n:Nat)(c:A3)(a b:Nat)(ha:a<c.fams.length)(hb:b<c.fams.length):AW Tryz.prog kn (AE Tryz.prog ann kn (n+300)) 122 [.agg (AD c),i a,i b]=some (.bool (KK c a b)):=by
 rw[AQ rfl,AP Tryz.func122 BD7 rfl (by simp[AD,AH,AM,AG,AR,A0,AO])];unfold KK;rw[W1 ha,W1 hb];have e:decide ((a:Int)=(b:Int))=decide (a=b):=decide_eq_decide.2 (by omega);have e2:decide (a≠b)=!decide (a=b):=by simp
 rw[e2];generalize decide (a=b)=z at *;rcases hF1:c.fams[a]with⟨s1,g1,d1,h1⟩;rcases hF2:c.fams[b]with⟨s2,g2,d2,h2⟩;simp only[AD];have p1:Nat.beq 4 1=false:=rfl;cases z<;>cases d1<;>cases h1<;>cases d2<;>cases h2<;>simp[A2I,AF,e,ha,hb,hF1,hF2,AO,BO,BV,CB,BK,E7,EQ,ET,HV,p1]
end Go.Proofs.Tryz.Op
namespace Go.Wind
def A6(G:List (Nat×Int))(ss:List (Int×Int))(k:Nat):Sp:=⟨(G.getD k (0,0)).1,(G.getD k (0,0)).2,(ss.getD k (0,0)).1,(ss.getD k (0,0)).2⟩
def KM(c:A3)(x y:Sp)(a b:Nat):Bool :=
 let d:=y.place+(a:Int)-x.place-(b:Int)
 decide (d=0)||((decide (d=1)||decide (d = -1))&&KK c y.fam x.fam)
theorem wN(c:A3)(x y:Sp):QV c x y=(List.range y.size.toNat).any fun a=>(List.range x.size.toNat).any (KM c x y a):=rfl
def RO(c:A3)(x y:Sp):Bool:=decide (y.row≠x.row)||!QV c x y
end Go.Wind
namespace Go.Proofs.Tryz.Op
section
variable (c:A3)(G:List (Nat×Int))(ss:List (Int×Int))(t q:Nat)
set_option maxHeartbeats 1000000 in
theorem ALY(hG:ss.length≤G.length)(ht:t+1=ss.length)(hq:q<t)(hs:ss.length≤100)(hf:∀g∈G,g.1<c.fams.length∧0≤g.2∧g.2≤4)(hp:0≤(A6 G ss q).place∧(A6 G ss q).place≤1000)(hx:0≤(A6 G ss t).place∧(A6 G ss t).place≤1000)(a:Nat)(ha:a≤4):∀(d b:Nat),b+d=(A6 G ss t).size.toNat→∃fr,BZ fr 1=some (true,.list false (G.map CD))∧BZ fr 2=some (true,.list false (ss.map AG))∧BZ fr 3=some (true,.ptr 0 3 0 0)∧BZ fr 7=some (true,i t)∧BZ fr 8=some (true,.ptr 0 8 1 0)∧BZ fr 9=some (true,i (A6 G ss t).size)∧BZ fr 10=some (true,i q)∧BZ fr 11=some (true,i a) ∧
  ∀n m,d<m→BC (AE Tryz.prog ann kn (n+400) 112) SU (ann 112 (BR SU)) m ⟨2,[(1,true,.list false (G.map CD)),(2,true,.list false (ss.map AG)),(3,true,.ptr 0 3 0 0),(7,true,i t),(8,true,.ptr 0 8 1 0),(9,true,i (A6 G ss t).size),(10,true,i q),(11,true,i a),(12,true,i b)],⟨[],[(3,0,.box (AD c)),(8,1,.box [i (A6 G ss t).row,i (A6 G ss t).place])]⟩⟩ =
   if ((List.range (A6 G ss t).size.toNat).drop b).any (KM c (A6 G ss t) (A6 G ss q) a)=true then some (.ret,⟨2,[(6,true,.bool false)],⟨[],[]⟩⟩) else some (.exit 4,⟨2,fr,⟨[],[(3,0,.box (AD c)),(8,1,.box [i (A6 G ss t).row,i (A6 G ss t).place])]⟩⟩)
 |0,b,hd=>by
  have hgt:t<G.length:=by omega
  have h1:=hf G[t] (List.getElem_mem hgt);have hge:(A6 G ss t).size=G[t].2:=by simp[A6,List.getD_eq_getElem?_getD,List.getElem?_eq_getElem hgt]
  have hb:(b:Int)=(A6 G ss t).size:=by omega
  rw[List.drop_eq_nil_of_le (by rw[List.length_range];omega),hb];refine⟨?fr,?g1,?g2,?g3,?g4,?g5,?g6,?g7,?g8,fun n m hm=>?g9⟩;case g9=>
   obtain⟨m,rfl⟩:∃m',m=m'+1:=⟨m-1,by omega⟩
   rw[AC]
   simp[AD]
   rfl
  all_goals simp
 |d+1,b,hd=>by
  have hgt:t<G.length:=by omega
  have hgq:q<G.length:=by omega
  have hsq:q<ss.length:=by omega
  have h1:=hf G[t] (List.getElem_mem hgt);have h2:=hf G[q] (List.getElem_mem hgq);have et:(A6 G ss t).size=G[t].2:=by simp[A6,List.getD_eq_getElem?_getD,List.getElem?_eq_getElem hgt]
  have et1:(A6 G ss t).fam=G[t].1:=by simp[A6,List.getD_eq_getElem?_getD,List.getElem?_eq_getElem hgt]
  have eq1:(A6 G ss q).fam=G[q].1:=by simp[A6,List.getD_eq_getElem?_getD,List.getElem?_eq_getElem hgq]
  have eq2:(A6 G ss q).place=ss[q].2:=by simp[A6,List.getD_eq_getElem?_getD,List.getElem?_eq_getElem hsq]
  have hlt:(b:Int)<(A6 G ss t).size:=by omega
  have hw:=BH (k:=b) (by omega);have qm:=fun n=>AG2 n c G[q].1 G[t].1 h2.1 h1.1;have w1:IntKind.i64.wrap (ss[q].2+(a:Int))=ss[q].2+a:=AV (by omega) (by omega);have w2:IntKind.i64.wrap (ss[q].2+(a:Int)-(A6 G ss t).place)=ss[q].2+a-(A6 G ss t).place:=AV (by omega) (by omega);obtain⟨D,hD⟩:∃D,ss[q].2+(a:Int)-(A6 G ss t).place-b=D:=⟨_,rfl⟩;have w3:IntKind.i64.wrap (ss[q].2+(a:Int)-(A6 G ss t).place-b)=D:=by rw[AV (by omega) (by omega),hD]
  obtain⟨fr,g1,g2,g3,g4,g5,g6,g7,g8,ih⟩:=ALY hG ht hq hs hf hp hx a ha d (b+1) (by omega);refine⟨fr,g1,g2,g3,g4,g5,g6,g7,g8,fun n m hm=>?_⟩;obtain⟨m,rfl⟩:∃m',m=m'+1:=⟨m-1,by omega⟩;have ih:=ih n m (by omega);rw[List.drop_eq_getElem_cons (by rw[List.length_range];omega),List.any_cons,List.getElem_range];have ec:KM c (A6 G ss t) (A6 G ss q) a b=(decide (ss[q].2+(a:Int)-(A6 G ss t).place-b=0)||((decide (ss[q].2+(a:Int)-(A6 G ss t).place-b=1)||decide (ss[q].2+(a:Int)-(A6 G ss t).place-b = -1))&&KK c G[q].1 G[t].1)):=by unfold KM;rw[eq1,et1,eq2]
  rw[ec,hD];clear hD ec;generalize ((List.range (A6 G ss t).size.toNat).drop (b+1)).any (KM c (A6 G ss t) (A6 G ss q) a)=z at ih⊢;generalize KK c G[q].1 G[t].1=z4 at *;generalize A6 G ss t=X at *;generalize e1:decide (D=0)=z1;generalize e2:decide (D=1)=z2;generalize e3:decide (D = -1)=z3;rw[AC];simp only[AD]at ih qm⊢;cases z1 with
  |true=>simp[hlt,hw,hgt,hgq,hsq,w1,w2,w3,e1,ET,CD,AG,AR,A0,AO,AM,AH]
  |false=>
   cases z2 with
   |true=>
    cases z4 with
    |true=>simp[hlt,hw,hgt,hgq,hsq,w1,w2,w3,e1,e2,qm,ET,CD,AG,AR,A0,AO,AM,AH]
    |false=>cases z<;>(simp at ih;simp[hlt,hw,hgt,hgq,hsq,w1,w2,w3,e1,e2,qm,ET,CD,AG,AR,A0,AO,AM,AH,ih])
   |false=>
    cases z3 with
    |true=>
     cases z4 with
     |true=>simp[hlt,hw,hgt,hgq,hsq,w1,w2,w3,e1,e2,e3,qm,ET,CD,AG,AR,A0,AO,AM,AH]
     |false=>cases z<;>(simp at ih;simp[hlt,hw,hgt,hgq,hsq,w1,w2,w3,e1,e2,e3,qm,ET,CD,AG,AR,A0,AO,AM,AH,ih])
    |false=>cases z<;>(simp at ih;simp[hlt,hw,hgt,hgq,hsq,w1,w2,w3,e1,e2,e3,ET,CD,AG,AR,A0,AO,AM,AH,ih])
theorem ALZ(hG:ss.length≤G.length)(ht:t+1=ss.length)(hq:q<t)(hs:ss.length≤100)(hf:∀g∈G,g.1<c.fams.length∧0≤g.2∧g.2≤4)(hp:0≤(A6 G ss q).place∧(A6 G ss q).place≤1000)(hx:0≤(A6 G ss t).place∧(A6 G ss t).place≤1000):∀(d a:Nat),a+d=(A6 G ss q).size.toNat→∃fr,BZ fr 1=some (true,.list false (G.map CD))∧BZ fr 2=some (true,.list false (ss.map AG))∧BZ fr 3=some (true,.ptr 0 3 0 0)∧BZ fr 7=some (true,i t)∧BZ fr 8=some (true,.ptr 0 8 1 0)∧BZ fr 9=some (true,i (A6 G ss t).size)∧BZ fr 10=some (true,i q) ∧
  ∀n m,d<m→BC (AE Tryz.prog ann kn (n+600) 112) SV (ann 112 (BR SV)) m ⟨2,[(1,true,.list false (G.map CD)),(2,true,.list false (ss.map AG)),(3,true,.ptr 0 3 0 0),(7,true,i t),(8,true,.ptr 0 8 1 0),(9,true,i (A6 G ss t).size),(10,true,i q),(11,true,i a)],⟨[],[(3,0,.box (AD c)),(8,1,.box [i (A6 G ss t).row,i (A6 G ss t).place])]⟩⟩ =
   if ((List.range (A6 G ss q).size.toNat).drop a).any (fun a=>(List.range (A6 G ss t).size.toNat).any (KM c (A6 G ss t) (A6 G ss q) a))=true then some (.ret,⟨2,[(6,true,.bool false)],⟨[],[]⟩⟩) else some (.exit 2,⟨2,fr,⟨[],[(3,0,.box (AD c)),(8,1,.box [i (A6 G ss t).row,i (A6 G ss t).place])]⟩⟩)
 |0,a,hd=>by
  have hgq:q<G.length:=by omega
  have h1:=hf G[q] (List.getElem_mem hgq);have hge:(A6 G ss q).size=G[q].2:=by simp[A6,List.getD_eq_getElem?_getD,List.getElem?_eq_getElem hgq]
  have hb:(a:Int)=G[q].2:=by omega
  rw[List.drop_eq_nil_of_le (by rw[List.length_range];omega),hb];refine⟨?fr,?g1,?g2,?g3,?g4,?g5,?g6,?g7,fun n m hm=>?g9⟩;case g9=>
   obtain⟨m,rfl⟩:∃m',m=m'+1:=⟨m-1,by omega⟩
   rw[AC]
   simp[AD,hgq,CD]
   rfl
  all_goals simp
 |d+1,a,hd=>by
  have hgq:q<G.length:=by omega
  have hgt:t<G.length:=by omega
  have h2:=hf G[q] (List.getElem_mem hgq);have h3:=hf G[t] (List.getElem_mem hgt);have eq3:(A6 G ss q).size=G[q].2:=by simp[A6,List.getD_eq_getElem?_getD,List.getElem?_eq_getElem hgq]
  have hlt:(a:Int)<G[q].2:=by omega
  have hw:=BH (k:=a) (by omega);obtain⟨f0,b1,b2,b3,b4,b5,b6,b7,b8,qi⟩:=ALY c G ss t q hG ht hq hs hf hp hx a (by omega) (A6 G ss t).size.toNat 0 (by omega);have hts:(A6 G ss t).size=G[t].2:=by simp[A6,List.getD_eq_getElem?_getD,List.getElem?_eq_getElem hgt]
  have qi:=fun n m=>qi n (m+100) (by omega);rw[List.drop_zero]at qi;obtain⟨fr,g1,g2,g3,g4,g5,g6,g7,ih⟩:=ALZ hG ht hq hs hf hp hx d (a+1) (by omega);refine⟨fr,g1,g2,g3,g4,g5,g6,g7,fun n m hm=>?_⟩;obtain⟨m,rfl⟩:∃m',m=m'+1:=⟨m-1,by omega⟩;have ih:=ih n m (by omega);rw[List.drop_eq_getElem_cons (by rw[List.length_range];omega),List.any_cons,List.getElem_range];generalize ((List.range (A6 G ss q).size.toNat).drop (a+1)).any (fun a=>(List.range (A6 G ss t).size.toNat).any (KM c (A6 G ss t) (A6 G ss q) a))=z at ih⊢;generalize (List.range (A6 G ss t).size.toNat).any (KM c (A6 G ss t) (A6 G ss q) a)=z1 at *;generalize A6 G ss t=X at *;rw[AC];simp only[AD]at ih qi⊢;cases z1<;>cases z<;>(simp at ih qi;simp[hlt,hw,hgq,qi,b1,b2,b3,b4,b5,b6,b7,b8,CD,ih])
end
theorem A0H(c:A3)(G:List (Nat×Int))(ss:List (Int×Int))(t:Nat)(hG:ss.length≤G.length)(ht:t+1=ss.length)(hs:ss.length≤100)(hf:∀g∈G,g.1<c.fams.length∧0≤g.2∧g.2≤4)(hp:∀q,q<t→0≤(A6 G ss q).place∧(A6 G ss q).place≤1000)(hx:0≤(A6 G ss t).place∧(A6 G ss t).place≤1000):∀(d q:Nat),q+d=t→∃fr,
  ∀n m,d<m→BC (AE Tryz.prog ann kn (n+800) 112) XX (ann 112 (BR XX)) m ⟨2,[(1,true,.list false (G.map CD)),(2,true,.list false (ss.map AG)),(3,true,.ptr 0 3 0 0),(7,true,i t),(8,true,.ptr 0 8 1 0),(9,true,i (A6 G ss t).size),(10,true,i q)],⟨[],[(3,0,.box (AD c)),(8,1,.box [i (A6 G ss t).row,i (A6 G ss t).place])]⟩⟩ =
   if ((List.range t).drop q).all (fun q=>RO c (A6 G ss t) (A6 G ss q))=true then some (.exit 0,⟨2,fr,⟨[],[(3,0,.box (AD c)),(8,1,.box [i (A6 G ss t).row,i (A6 G ss t).place])]⟩⟩) else some (.ret,⟨2,[(6,true,.bool false)],⟨[],[]⟩⟩)
 |0,q,hd=>by
  obtain rfl:q=t:=by omega
  rw[List.drop_eq_nil_of_le (by rw[List.length_range];omega)];refine⟨?fr,fun n m hm=>?g9⟩;case g9=>
   obtain⟨m,rfl⟩:∃m',m=m'+1:=⟨m-1,by omega⟩
   rw[AC]
   simp[AD]
   rfl
 |d+1,q,hd=>by
  have hq:q<t:=by omega
  have hgq:q<G.length:=by omega
  have hsq:q<ss.length:=by omega
  have hw:=BH (k:=q) (by omega);have hlt:(q:Int)<(t:Int):=by omega
  have eq2:(A6 G ss q).row=ss[q].1:=by simp[A6,List.getD_eq_getElem?_getD,List.getElem?_eq_getElem hsq]
  obtain⟨f0,b1,b2,b3,b4,b5,b6,b7,qi⟩:=ALZ c G ss t q hG ht hq hs hf (hp q hq) hx (A6 G ss q).size.toNat 0 (by omega);have qi:=fun n m=>qi n (m+100) (by
   have h2:=hf G[q] (List.getElem_mem hgq);have:(A6 G ss q).size=G[q].2:=by simp[A6,List.getD_eq_getElem?_getD,List.getElem?_eq_getElem hgq]
   omega)
  rw[List.drop_zero,←wN]at qi;obtain⟨fr,ih⟩:=A0H c G ss t hG ht hs hf hp hx d (q+1) (by omega);refine⟨fr,fun n m hm=>?_⟩;obtain⟨m,rfl⟩:∃m',m=m'+1:=⟨m-1,by omega⟩;have ih:=ih n m (by omega);rw[List.drop_eq_getElem_cons (by rw[List.length_range];omega),List.all_cons,List.getElem_range];have ef:RO c (A6 G ss t) (A6 G ss q)=(decide (ss[q].1≠(A6 G ss t).row)||!QV c (A6 G ss t) (A6 G ss q)):=by unfold RO;rw[eq2]
  rw[ef];generalize ((List.range t).drop (q+1)).all (fun q=>RO c (A6 G ss t) (A6 G ss q))=z at ih⊢;generalize QV c (A6 G ss t) (A6 G ss q)=z1 at *;generalize A6 G ss t=X at *;rw[AC];simp only[AD]at ih qi⊢;by_cases hr:ss[q].1=X.row
  ·have hr':decide (ss[q].1≠X.row)=false:=by simp[hr]
   rw[hr'];cases z1<;>cases z<;>(simp at ih qi;simp[hlt,hw,hgq,hsq,hr,qi,b1,b2,b3,b4,b5,b6,b7,CD,AG,ih])
  ·have hr':decide (ss[q].1≠X.row)=true:=by simp[hr]
   rw[hr'];cases z<;>(simp at ih;simp[hlt,hw,hgq,hsq,hr,CD,AG,ih])
def JN(c:A3)(G:List (Nat×Int))(ss:List (Int×Int))(t:Nat):Bool:=F8 c (A6 G ss t)&&(List.range t).all fun q=>RO c (A6 G ss t) (A6 G ss q)
theorem A0I(n:Nat)(c:A3)(h1:0≤c.beach.rows∧c.beach.rows≤1000)(h2:0≤c.beach.places∧c.beach.places≤1000)(G:List (Nat×Int))(ss:List (Int×Int))(t:Nat)(hG:ss.length≤G.length)(ht:t+1=ss.length)(hs:ss.length≤100)(hf:∀g∈G,g.1<c.fams.length∧0≤g.2∧g.2≤4)(hp:∀q,q<t→0≤(A6 G ss q).place∧(A6 G ss q).place≤1000):AW Tryz.prog kn (AE Tryz.prog ann kn (n+1000)) 74 [.agg (AD c),.list false (G.map CD),.list false (ss.map AG)]=some (.bool (JN c G ss t)):=by
 rw[AQ rfl,AP Tryz.func74 b74 rfl (by simp[AD,AH,AM,AG,AR,A0,AO,CD])];have hgt:t<G.length:=by omega
 have hst:t<ss.length:=by omega
 have hf1:=hf G[t] (List.getElem_mem hgt);have e1:(A6 G ss t).size=G[t].2:=by simp[A6,List.getD_eq_getElem?_getD,List.getElem?_eq_getElem hgt]
 have e2:(A6 G ss t).row=ss[t].1:=by simp[A6,List.getD_eq_getElem?_getD,List.getElem?_eq_getElem hst]
 have e3:(A6 G ss t).place=ss[t].2:=by simp[A6,List.getD_eq_getElem?_getD,List.getElem?_eq_getElem hst]
 have hlen:(ss.length:Int)=(t:Int)+1:=by omega
 have w0:IntKind.i64.wrap ((t:Int)+1-1)=(t:Int):=by rw[AV (by omega) (by omega)];omega
 have hlt0:¬((t:Int)+1≤(t:Int)):=by omega
 have w00:IntKind.i64.wrap (t:Int)=(t:Int):=AV (by omega) (by omega);have w1:IntKind.i64.wrap (c.beach.rows-1)=c.beach.rows-1:=AV (by omega) (by omega);have w2:IntKind.i64.wrap (c.beach.places-G[t].2)=c.beach.places-G[t].2:=AV (by omega) (by omega);have qi:=fun n=>kIn n ss[t].1 0 (c.beach.rows-1);unfold JN;have ef:F8 c (A6 G ss t)=(FU ss[t].1 0 (c.beach.rows-1)&&(!decide (ss[t].2<0)&&!decide (c.beach.places-G[t].2<ss[t].2))):=by unfold F8;rw[e1,e2,e3];congr 1;unfold FU;by_cases x1:ss[t].2<0<;>by_cases x2:c.beach.places-G[t].2<ss[t].2<;>simp[x1,x2]<;>omega
 have hp1:Nat.beq 2 1=false:=rfl;by_cases hfit:F8 c (A6 G ss t)=true
 ·have hx:0≤(A6 G ss t).place∧(A6 G ss t).place≤1000:=by simp only[F8,Bool.and_eq_true,DV]at hfit;omega
  obtain⟨fr,q⟩:=A0H c G ss t hG ht hs hf hp hx t 0 (by omega);have q:=fun n m=>q n (m+101) (by omega);rw[List.drop_zero]at q;rw[hfit,Bool.true_and];rw[ef]at hfit;simp only[Bool.and_eq_true,Bool.not_eq_true',decide_eq_false_iff_not]at hfit;obtain⟨f1,f2,f3⟩:=hfit;rw[f1]at qi;rw[e1,e2,e3]at q;generalize (List.range t).all (fun q=>RO c (A6 G ss t) (A6 G ss q))=z at *;simp only[AD]at q⊢;cases z<;>(simp at q;simp[c74,AF,hlen,hgt,hst,hlt0,w0,w00,w1,w2,qi,f2,f3,CD,AG,BO,BV,CB,BK,E7,EQ,ET,HV,hp1,q])
 ·have hfit:F8 c (A6 G ss t)=false:=by simpa using hfit
  rw[hfit,Bool.false_and];rw[ef]at hfit;generalize FU ss[t].1 0 (c.beach.rows-1)=z1 at *;generalize x2:decide (ss[t].2<0)=z2 at *;generalize x3:decide (c.beach.places-G[t].2<ss[t].2)=z3 at *;simp only[AD];cases z1<;>cases z2<;>cases z3<;>first|(exact absurd hfit (by decide))|simp[c74,AF,hlen,hgt,hst,hlt0,w0,w00,w1,w2,qi,x2,x3,CD,AG,BO,BV,CB,BK,E7,EQ,ET,HV,hp1]
end Go.Proofs.Tryz.Op
namespace Go.Wind
open Go.Proofs.Tryz.Op
def NV(c:A3)(G:List (Nat×Int))(ss:List (Int×Int)):Bool:=decide (ss.length=G.length)&&(decide (DA G≤(GF c:Int))&&(List.range ss.length).all (JN c G ss))
theorem RP(c:A3)(f:Nat→Sp):∀n,EP c [] ((List.range n).map f)=(List.range n).all fun t=>F8 c (f t)&&((List.range t).map f).all (GH c (f t))
 |0=>rfl
 |n+1=>by rw[List.range_succ,List.map_append,MA,RP c f n,List.all_append];simp[EP]
theorem cR{G:List (Nat×Int)}(hG:∀g∈G,1≤g.2∧g.2≤4){ss:List (Int×Int)}{t:Nat}(ht:t<G.length):1≤(A6 G ss t).size:=by simp only[A6,List.getD_eq_getElem?_getD,List.getElem?_eq_getElem ht,Option.getD_some];exact(hG _ (List.getElem_mem ht)).1
theorem iY{c:A3}{G:List (Nat×Int)}(hG:∀g∈G,1≤g.2∧g.2≤4){ss:List (Int×Int)}{t:Nat}(ht:t<G.length):JN c G ss t=(F8 c (A6 G ss t)&&((List.range t).map (A6 G ss)).all (GH c (A6 G ss t))):=by
 rw[← oL (cR hG ht) fun y hy=>by
  obtain⟨q,hq,rfl⟩:=List.mem_map.1 hy;exact cR hG (by have:=List.mem_range.1 hq; omega)]
 unfold JN iT RO;rw[List.all_map];rfl
theorem oQ{G:List (Nat×Int)}{ss:List (Int×Int)}(_:ss.length≤G.length):∀{l:List Sp},l.length=ss.length→(∀j (h1:j<l.length),l[j]=A6 G ss j)→l=(List.range ss.length).map (A6 G ss):=fun {l} h1 h2=>by apply List.ext_getElem (by simp[h1]);intro j g1 g2;rw[h2 j g1];simp
theorem iZ{c:A3}{G:List (Nat×Int)}(hG:∀g∈G,1≤g.2∧g.2≤4)(ss:List (Int×Int)):NV c G ss=(decide (ss.length=G.length)&&(decide (DA G≤(GF c:Int))&&EP c [] ((List.range ss.length).map (A6 G ss)))):=by
 unfold NV;by_cases h:ss.length=G.length
 ·congr 2;rw[RP];have:∀l:List Nat,(∀t∈l,t<G.length)→l.all (JN c G ss)=l.all fun t=>F8 c (A6 G ss t)&&((List.range t).map (A6 G ss)).all (GH c (A6 G ss t)):=fun l hl=>by
   induction l with
   |nil=>rfl
   |cons t l ih=>rw[List.all_cons,List.all_cons,ih fun x hx=>hl x (by simp[hx]),iY hG (hl t (by simp))]
  exact this _ fun t ht=>by have:=List.mem_range.1 ht;omega
 ·simp[h]
theorem QX{c:A3}(hc:DW c)(out:List Int):∀(k:Nat),k≤c.fams.length→∀g∈B0 c.fams out k,g.1<c.fams.length∧1≤g.2∧g.2≤4
 |0,_,g,hg=>by cases hg
 |k+1,hk,g,hg=>by
  simp only[B0,List.mem_append]at hg;rcases hg with hg|hg
  ·exact QX hc out k (by omega) g hg
  ·split at hg
   ·cases hg
   ·rw[List.mem_singleton]at hg;subst hg;have hk':k<c.fams.length:=by omega
    have e:c.fams.getD k ⟨0,0,false,false⟩=c.fams[k]:=by rw[List.getD_eq_getElem?_getD,List.getElem?_eq_getElem hk'];rfl
    have:=hc.fo _ (List.getElem_mem hk');simp only[e];exact⟨hk',this.1⟩
theorem QJ{c:A3}:∀(k:Nat),k≤c.fams.length→DA (B0 c.fams [] k)=((c.fams.take k).map L9.size).sum
 |0,_=>rfl
 |k+1,hk=>by
  have hk':k<c.fams.length:=by omega
  have e:c.fams.getD k ⟨0,0,false,false⟩=c.fams[k]:=by rw[List.getD_eq_getElem?_getD,List.getElem?_eq_getElem hk'];rfl
  have ih:=QJ (c:=c) k (by omega);unfold DA at ih⊢;simp only[B0,List.not_mem_nil,decide_false,Bool.false_eq_true,if_false,e,List.map_append,List.sum_append,ih];rw[List.take_succ_eq_append_getElem hk',List.map_append,List.sum_append];rfl
theorem fE{c:A3}(hc:DW c)(ss:List (Int×Int)):NV c (CO c []) ss=DX c ss:=by
 have hgl:(CO c []).length=c.fams.length:=FJ c;have hgm:∀g∈CO c [],1≤g.2∧g.2≤4:=fun g hg=>(QX hc [] _ (Nat.le_refl _) g hg).2;rw[iZ hgm,hgl];unfold DX;by_cases h:ss.length=c.fams.length
 ·rw[decide_eq_true h,Bool.true_and,Bool.true_and];have hp:DA (CO c [])=EV (AY c ss):=by rw[show EV (AY c ss)=(c.fams.map L9.size).sum from RL h];have:=QJ (c:=c) c.fams.length (Nat.le_refl _);rw[List.take_length]at this;exact this
  have hl:AY c ss=(List.range ss.length).map (A6 (CO c []) ss):=by
   refine oQ (by omega) (by rw[show(AY c ss).length=c.fams.length from C6 h,h]) fun j h1=>?_;have hj:j<c.fams.length:=by rwa [show(AY c ss).length=c.fams.length from C6 h]at h1
   have e:=NP (k:=0) (fs:=c.fams) (ss:=ss) j hj (by omega) h1;rw[Nat.zero_add]at e;have hg:=cO hj (by rw[hgl];exact hj);unfold A6;rw[List.getD_eq_getElem?_getD,List.getD_eq_getElem?_getD,List.getElem?_eq_getElem (by rw[hgl];exact hj),List.getElem?_eq_getElem (by omega:j<ss.length)];simp only[Option.getD_some,hg];exact e
  unfold KL;rw[hp,←hl,Bool.and_comm]
 ·simp[h]
def XK(H:List (List EI))(r p:Nat):Int:=((H.getD r []).getD p ⟨0,0,0⟩).good
def NW(H:List (List EI))(r p n:Nat):Int:=H7 (fun q=>XK H r (p+q)) n
def EU(H:List (List EI))(good:Int)(r p n:Nat):Bool:=(List.range n).all fun q=>decide (good≤XK H r (p+q))
end Go.Wind
namespace Go.Proofs.Tryz.Op
def I8{α:Type}(l:List α):Bool:=!decide ((7:Int)<(l.length:Int))
def cS(c:A3):Bool:=(UG c.beach&&(I8 c.plan&&(I8 c.chairs&&!decide ((5:Int)<(c.fams.length:Int)))))&&(c.plan.all I8&&c.chairs.all I8)
theorem wO{α:Type}{l:List α}:I8 l=true↔l.length≤7:=by simp only[I8,Bool.not_eq_true',decide_eq_false_iff_not];omega
theorem XL{c:A3}(h:cS c=true):UG c.beach=true∧c.plan.length≤7∧c.chairs.length≤7∧c.fams.length≤5∧(∀l∈c.plan,l.length≤7)∧∀l∈c.chairs,l.length≤7:=by simp only[cS,Bool.and_eq_true,wO,List.all_eq_true,Bool.not_eq_true',decide_eq_false_iff_not]at h;exact⟨h.1.1,h.1.2.1,h.1.2.2.1,by omega,h.2.1,h.2.2⟩
theorem A0J(c:A3)(hl:c.plan.length≤100):∀(d k:Nat),k+d=c.plan.length→∃fr,BZ fr 1=some (true,.ptr 0 1 0 0) ∧
  ∀n m,d<m→BC (AE Tryz.prog ann kn (n+100) 55) XZ (ann 55 (BR XZ)) m ⟨1,[(1,true,.ptr 0 1 0 0),(3,true,i k)],⟨[],[(1,0,.box (AD c))]⟩⟩ =
   if (c.plan.drop k).all I8=true then some (.exit 0,⟨1,fr,⟨[],[(1,0,.box (AD c))]⟩⟩) else some (.ret,⟨1,[(2,true,.bool false)],⟨[],[]⟩⟩)
 |0,k,hk=>by
  have:k=c.plan.length:=by omega
  subst this;rw[List.drop_length];refine⟨?fr,?g1,fun n m hm=>?g2⟩;case g2=>
   obtain⟨m,rfl⟩:∃m',m=m'+1:=⟨m-1,by omega⟩
   rw[AC]
   simp[AD]
   rfl
  case g1=>simp
 |d+1,k,hk=>by
  have hk':k<c.plan.length:=by omega
  have hw:=BH (k:=k) (by omega);obtain⟨fr,e1,ih⟩:=A0J c hl d (k+1) (by omega);rw[List.drop_eq_getElem_cons hk',List.all_cons];refine⟨fr,e1,fun n m hm=>?_⟩;obtain⟨m,rfl⟩:∃m',m=m'+1:=⟨m-1,by omega⟩;have ih:=ih n m (by omega);have es:I8 c.plan[k]=!decide ((7:Int)<(c.plan[k].length:Int)):=rfl;rw[es];generalize e1:decide ((7:Int)<(c.plan[k].length:Int))=z1;generalize (c.plan.drop (k+1)).all I8=z at ih⊢;rw[AC];simp only[AD]at ih⊢;cases z1<;>cases z<;>(simp at ih;simp[AM,hk',hw,e1,ih])
theorem A0K(c:A3)(hl:c.chairs.length≤100):∀(d k:Nat),k+d=c.chairs.length→∃fr,BZ fr 1=some (true,.ptr 0 1 0 0) ∧
  ∀n m,d<m→BC (AE Tryz.prog ann kn (n+100) 55) X0 (ann 55 (BR X0)) m ⟨1,[(1,true,.ptr 0 1 0 0),(4,true,i k)],⟨[],[(1,0,.box (AD c))]⟩⟩ =
   if (c.chairs.drop k).all I8=true then some (.exit 2,⟨1,fr,⟨[],[(1,0,.box (AD c))]⟩⟩) else some (.ret,⟨1,[(2,true,.bool false)],⟨[],[]⟩⟩)
 |0,k,hk=>by
  have:k=c.chairs.length:=by omega
  subst this;rw[List.drop_length];refine⟨?fr,?g1,fun n m hm=>?g2⟩;case g2=>
   obtain⟨m,rfl⟩:∃m',m=m'+1:=⟨m-1,by omega⟩
   rw[AC]
   simp[AD]
   rfl
  case g1=>simp
 |d+1,k,hk=>by
  have hk':k<c.chairs.length:=by omega
  have hw:=BH (k:=k) (by omega);obtain⟨fr,e1,ih⟩:=A0K c hl d (k+1) (by omega);rw[List.drop_eq_getElem_cons hk',List.all_cons];refine⟨fr,e1,fun n m hm=>?_⟩;obtain⟨m,rfl⟩:∃m',m=m'+1:=⟨m-1,by omega⟩;have ih:=ih n m (by omega);have es:I8 c.chairs[k]=!decide ((7:Int)<(c.chairs[k].length:Int)):=rfl;rw[es];generalize e1:decide ((7:Int)<(c.chairs[k].length:Int))=z1;generalize (c.chairs.drop (k+1)).all I8=z at ih⊢;rw[AC];simp only[AD]at ih⊢;cases z1<;>cases z<;>(simp at ih;simp[AR,hk',hw,e1,ih])
theorem APE(n:Nat)(c:A3):AW Tryz.prog kn (AE Tryz.prog ann kn (n+1400)) 18 [.agg (AD c)]=some (.bool (cS c)):=by
 rw[AQ rfl,AP Tryz.func18 b18 rfl (by simp[AD,AH,AM,AG,AR,A0,AO])];have qT:=fun n=>A8R n c.beach;unfold cS;have es:I8 c.plan=!decide ((7:Int)<(c.plan.length:Int)):=rfl;have et:I8 c.chairs=!decide ((7:Int)<(c.chairs.length:Int)):=rfl;rw[es,et];generalize e1:decide ((7:Int)<(c.plan.length:Int))=z1;generalize e2:decide ((7:Int)<(c.chairs.length:Int))=z2;generalize e3:decide ((5:Int)<(c.fams.length:Int))=z3;generalize UG c.beach=z4 at *;simp only[AB]at qT;by_cases h:z4=true∧z1=false∧z2=false∧z3=false
 ·obtain⟨rfl,rfl,rfl,rfl⟩:=h;have h1:=of_decide_eq_false e1;have h2:=of_decide_eq_false e2;obtain⟨f1,g1,q1⟩:=A0J c (by omega) c.plan.length 0 (by omega);obtain⟨f2,g2,q2⟩:=A0K c (by omega) c.chairs.length 0 (by omega);have q1:=fun n m=>q1 n (m+100) (by omega);have q2:=fun n m=>q2 n (m+100) (by omega);rw[List.drop_zero]at q1 q2;generalize c.plan.all I8=y1 at *;generalize c.chairs.all I8=y2 at *;simp only[AD]at q1 q2⊢;cases y1<;>cases y2<;>(simp at q1 q2;simp[c18,AF,qT,e1,e2,e3,q1,q2,g1,g2,AR,A0,AO,AG,AM,AH])
 ·simp only[AD]at⊢;cases z4<;>cases z1<;>cases z2<;>cases z3<;>first|exact absurd ⟨rfl,rfl,rfl,rfl⟩ h|simp[c18,AF,qT,e1,e2,e3,AR,A0,AO,AG,AM,AH]
theorem A0L{k:Nat}(hk:k≤100000)(q g n:Nat):CA Tryz.prog 22 k [[.vec 0 q g n]]=true:=by rw[CH (by simp) (by simp)];simp[maxLen];omega
theorem AG3(l k:Nat)(o:Option (Nat×AZ))(ls:List (List Int)):(ls.map AM).map (List.map (BD l k o 3))=ls.map AM:=by rw[List.map_map];exact List.map_congr_left fun x _=>rfl
theorem A0M(ls:List (List Int)):(ls.map AM).map (List.map eF)=ls.map AM:=by rw[List.map_map];exact List.map_congr_left fun x _=>rfl
theorem QY(k γ:Nat)(h:List V)(t:List (List V)):pv k γ (h::t)=.vec 0 k γ (t.length+1):=rfl
theorem slN:sl []=.nil:=rfl
theorem slC(e:List V)(es:List (List V)):sl (e::es)=.list false (e::es):=rfl
theorem PJ(l k:Nat)(o:Option (Nat×AZ))(f:Nat)(es:List (List V)):BD l k o f (sl es)=sl es:=by cases f<;>cases es<;>rfl
theorem APF(ls:List (List Int))(h1:ls.length≤100)(h2:∀l∈ls,l.length≤100):∀(d k c γ:Nat),k+d=ls.length→∃fr c' γ',fr=[(8,true,V.bool false),(7,true,i ls.length),(6,true,GN ls),(5,true,i ls.length),(0,true,GN ls),(3,true,pv 18 γ' (ls.map AM)),(4,true,i ls.length)]∧∀n m,d<m→BC (AE Tryz.prog ann kn (n+200) 20) X3 (ann 20 (BR X3)) m ⟨c,[(0,true,GN ls),(3,true,pv 18 γ ((ls.take k).map AM)),(4,true,i k)],⟨[],pl 18 γ 22 ((ls.take k).map AM)⟩⟩ =
  some (.exit 0,⟨c',fr,⟨[],pl 18 γ' 22 (ls.map AM)⟩⟩)
 |0,k,c,γ,hk=>by
  have:k=ls.length:=by omega
  subst this;rw[List.take_length];refine⟨_,c,γ,rfl,fun n m hm=>?_⟩;obtain⟨m,rfl⟩:∃m',m=m'+1:=⟨m-1,by omega⟩;rw[AC];simp
 |d+1,k,c,γ,hk=>by
  have hk':k<ls.length:=by omega
  have hw:=BH (k:=k) (by omega);have h3:=h2 _ (List.getElem_mem hk');have hst:(ls.take (k+1)).map AM=(ls.take k).map AM++[AM ls[k]]:=by rw[List.take_succ_eq_append_getElem hk',List.map_append];rfl
  have hRl:((ls.take k).map AM).length=k:=by rw[List.length_map,List.length_take];omega
  have hto:=fun o=>AG3 0 16 o (ls.take k);have hR1:∀e∈(ls.take k).map AM,e.length=1:=fun e he=>by obtain⟨l,_,rfl⟩:=List.mem_map.1 he;rfl
  have hwk:=A0M (ls.take k);have ha:=fun q g n=>A0L (k:=((ls.take k).map AM).length) (by omega) q g n;have hai:=A8N (k:=0) (l:=ls[k]) (by omega);generalize hLk:ls[k]=L at *;cases L with
  |nil=>
   obtain⟨fr,c',γ',e1,ih⟩:=APF ls h1 h2 d (k+1) (c+1+1) (c+1) (by omega)
   refine⟨fr,c',γ',e1,fun n m hm=>?_⟩
   obtain⟨m,rfl⟩:∃m',m=m'+1:=⟨m-1,by omega⟩
   have ih:=ih n m (by omega)
   rw[hst]at ih
   generalize ls.map AM=fin at *
   generalize (ls.take k).map AM=R at *
   rw[AC]
   simp[AM]at hai
   cases R with
   |nil=>simp[AM,li,QY]at ih ha;simp[show c+1+1=c+2 from rfl,hk',hw,hLk,AM,AH,ha,hai,ih,BO,ET,HV,EW,BV,CB,BK,E7,EQ]
   |cons r R=>
    have hR2:=hR1 r (by simp)
    have hR3:=eq_true (fun e he=>hR1 e (List.mem_cons_of_mem r he):∀e∈R,e.length=1)
    simp[AM,li,QY]at ih ha hto hwk
    simp[show c+1+1=c+2 from rfl,hk',hw,hLk,AM,AH,ha,hai,ih,hto,hwk,hR2,hR3,PJ,QY,BO,ET,HV,EW,BV,CB,BK,E7,EQ]
  |cons x L=>
   obtain⟨fr,c',γ',e1,ih⟩:=APF ls h1 h2 d (k+1) (c+1+1) (c+1) (by omega)
   refine⟨fr,c',γ',e1,fun n m hm=>?_⟩
   obtain⟨m,rfl⟩:∃m',m=m'+1:=⟨m-1,by omega⟩
   have ih:=ih n m (by omega)
   rw[hst]at ih
   generalize ls.map AM=fin at *
   generalize (ls.take k).map AM=R at *
   rw[AC]
   simp[AM,AH]at hai
   cases R with
   |nil=>simp[AM,AH,li,QY]at ih ha;simp[show c+1+1=c+2 from rfl,hk',hw,hLk,AM,AH,ha,hai,ih,BO,ET,HV,EW,BV,CB,BK,E7,EQ]
   |cons r R=>
    have hR2:=hR1 r (by simp)
    have hR3:=eq_true (fun e he=>hR1 e (List.mem_cons_of_mem r he):∀e∈R,e.length=1)
    simp[AM,AH,li,QY]at ih ha hto hwk
    simp[show c+1+1=c+2 from rfl,hk',hw,hLk,AM,AH,ha,hai,ih,hto,hwk,hR2,hR3,PJ,QY,BO,ET,HV,EW,BV,CB,BK,E7,EQ]
theorem AG4(n:Nat)(ls:List (List Int))(h1:ls.length≤100)(h2:∀l∈ls,l.length≤100):AW Tryz.prog kn (AE Tryz.prog ann kn (n+400)) 69 [GN ls]=some (sl (ls.map AM)):=by rw[AQ rfl,AP Tryz.func69 b69 rfl (by simp[AH,AM])];obtain⟨fr,c',γ',e1,q⟩:=APF ls h1 h2 ls.length 0 0 0 (by omega);have q:=fun n m=>q n (m+200) (by omega);simp at q e1;simp[c69,AF,q,e1,AM,AH]
theorem AG5(o:Option (Nat×AZ))(ss:List (Int×Int)):(ss.map AG).map (List.map (BD 0 16 o 3))=ss.map AG:=by rw[List.map_map];exact List.map_congr_left fun x _=>rfl
theorem A0N(ss:List (Int×Int)):(ss.map AG).map (List.map eF)=ss.map AG:=by rw[List.map_map];exact List.map_congr_left fun x _=>rfl
theorem AL0(l k a b c n:Nat):BD l k none 3 (.vec a b c n)=.vec a b c n:=rfl
theorem wkI(n:Int):eF (i n)=i n:=rfl
theorem A0O(ss:List (Int×Int))(h1:ss.length≤100):∀(d k c γ:Nat),k+d=ss.length→∃fr c' γ',fr=[(8,true,V.bool false),(7,true,i ss.length),(6,true,.list false (ss.map AG)),(5,true,i ss.length),(0,true,.list false (ss.map AG)),(3,true,pv 18 γ' (ss.map AG)),(4,true,i ss.length)]∧∀n m,d<m→BC (AE Tryz.prog ann kn (n+200) 20) X4 (ann 20 (BR X4)) m ⟨c,[(0,true,.list false (ss.map AG)),(3,true,pv 18 γ ((ss.take k).map AG)),(4,true,i k)],⟨[],pl 18 γ 86 ((ss.take k).map AG)⟩⟩ =
  some (.exit 0,⟨c',fr,⟨[],pl 18 γ' 86 (ss.map AG)⟩⟩)
 |0,k,c,γ,hk=>by
  have:k=ss.length:=by omega
  subst this;rw[List.take_length];refine⟨_,c,γ,rfl,fun n m hm=>?_⟩;obtain⟨m,rfl⟩:∃m',m=m'+1:=⟨m-1,by omega⟩;rw[AC];simp
 |d+1,k,c,γ,hk=>by
  have hk':k<ss.length:=by omega
  have hw:=BH (k:=k) (by omega);have hst:(ss.take (k+1)).map AG=(ss.take k).map AG++[AG ss[k]]:=by rw[List.take_succ_eq_append_getElem hk',List.map_append];rfl
  have hRl:((ss.take k).map AG).length=k:=by rw[List.length_map,List.length_take];omega
  have hR1:∀e∈(ss.take k).map AG,e.length=2:=fun e he=>by obtain⟨l,_,rfl⟩:=List.mem_map.1 he;rfl
  have hto:=AG5 none (ss.take k);have hwk:=A0N (ss.take k);have happ:=A84 (k:=((ss.take k).map AG).length) (x:=ss[k]) (by omega);have q:=fun n=>AFZ n ss[k];obtain⟨fr,c',γ',e1,ih⟩:=A0O ss h1 d (k+1) (c+1) c (by omega);refine⟨fr,c',γ',e1,fun n m hm=>?_⟩;obtain⟨m,rfl⟩:∃m',m=m'+1:=⟨m-1,by omega⟩;have ih:=ih n m (by omega);rw[hst]at ih;generalize (ss.take k).map AG=R at *;rw[AC];simp[AG]at q;cases R with
  |nil=>simp[AG,QY]at ih happ;simp[-List.map_map,hk',hw,AG,QY,q,happ,ih,AL0,wkI,BO,ET,HV,EW,BV,CB,BK,E7,EQ]
  |cons r R=>
   have hR2:=hR1 r (by simp)
   have hR3:=eq_true (fun e he=>hR1 e (List.mem_cons_of_mem r he):∀e∈R,e.length=2)
   simp[AG,QY,-List.map_map]at ih happ hto hwk
   simp[-List.map_map,hk',hw,AG,QY,q,happ,ih,hR2,hR3,AL0,wkI,hto,hwk,BO,ET,HV,EW,BV,CB,BK,E7,EQ]
theorem AG6(n:Nat)(ss:List (Int×Int))(h1:ss.length≤100):AW Tryz.prog kn (AE Tryz.prog ann kn (n+400)) 22 [.list false (ss.map AG)]=some (sl (ss.map AG)):=by
 rw[AQ rfl,AP Tryz.func22 b22 rfl (by simp[AG])];obtain⟨fr,c',γ',e1,q⟩:=A0O ss h1 ss.length 0 0 0 (by omega);have q:=fun n m=>q n (m+200) (by omega);have hcl:∀e∈ss.map AG,∀v∈e,AK 8 v=true:=fun e he v hv=>by obtain⟨l,_,rfl⟩:=List.mem_map.1 he;simp only[AG,List.mem_cons,List.not_mem_nil,or_false]at hv;rcases hv with rfl|rfl<;>rfl
 generalize ss.map AG=R at *;simp at q e1;simp[c22,AF,q,e1];exact hcl
theorem A0P{k:Nat}{g:Nat×Int}(h:k≤1000):CA Tryz.prog 135 k [[i (g.1:Int),i g.2]]=true:=by rw[CH (by simp) (by simp)];simp[maxLen];omega
theorem wP{x N j:Nat}:((j:Int)∈IM x N)↔j<N∧x.testBit j=true:=by
 unfold IM;rw[List.mem_map];constructor
 ·rintro ⟨i,hi,e⟩;rw[List.mem_filter,List.mem_range]at hi;have:i=j:=by omega
  subst this;exact hi
 ·intro h;exact⟨j,by rw[List.mem_filter,List.mem_range];exact h,rfl⟩
theorem AAS(x j:Nat):decide ((((x / 2 ^ j:Nat):Int).tmod 2)=0)=!x.testBit j:=by rw[←AI4];have h:=Int.tmod_eq_emod_of_nonneg (a:=((x / 2 ^ j:Nat):Int)) (b:=2) (Int.natCast_nonneg _);rw[h];rcases Int.emod_two_eq ((x / 2 ^ j:Nat):Int)with h|h<;>rw[h]<;>rfl
def ID(c:A3)(x:Nat):List (Nat×Int):=CO c (IM x c.fams.length)
theorem APG(c:A3)(hl:c.fams.length≤30)(x:Nat):∀(d k g γ:Nat),k+d=c.fams.length→0<g→∃g' γ' fr,BZ fr 5=some (true,pv 30 γ' ((ID c x).map CD)) ∧
  ∀n m,d<m→BC (AE Tryz.prog ann kn (n+100) 32) X5 (ann 32 (BR X5)) m ⟨g,[(1,true,i x),(2,true,.ptr 0 2 0 0),(5,true,pv 30 γ ((B0 c.fams (IM x c.fams.length) k).map CD)),(6,true,i k)],⟨[],(2,0,.box (AD c))::pl 30 γ 135 ((B0 c.fams (IM x c.fams.length) k).map CD)⟩⟩ =
   some (.exit 0,⟨g',fr,⟨[],(2,0,.box (AD c))::pl 30 γ' 135 ((ID c x).map CD)⟩⟩)
 |0,k,g,γ,hk,hg=>by
  obtain rfl:k=c.fams.length:=by omega
  have e:B0 c.fams (IM x c.fams.length) c.fams.length=ID c x:=rfl;rw[e];generalize ID c x=R;refine⟨g,γ,?fr,?g1,fun n m hm=>?g2⟩;case g2=>
   obtain⟨m,rfl⟩:∃m',m=m'+1:=⟨m-1,by omega⟩
   rw[AC]
   simp[AD]
   rfl
  case g1=>simp
 |d+1,k,g,γ,hk,hg=>by
  have hk':k<c.fams.length:=by omega
  have hw:=BH (k:=k) (by omega);have hgl:=NR c.fams (IM x c.fams.length) k;have hf:c.fams.getD k ⟨0,0,false,false⟩=c.fams[k]:=by rw[List.getD_eq_getElem?_getD,List.getElem?_eq_getElem hk'];rfl
  have hst:B0 c.fams (IM x c.fams.length) (k+1)=B0 c.fams (IM x c.fams.length) k++(if decide ((k:Int)∈IM x c.fams.length)=true then[] else[(k,c.fams[k].size)]):=by rw[←hf];rfl
  have hin:decide ((k:Int)∈IM x c.fams.length)=x.testBit k:=by rw[Bool.eq_iff_iff,decide_eq_true_eq,wP];exact⟨fun h=>h.2,fun h=>⟨hk',h⟩⟩
  have happ:=A0P (k:=(B0 c.fams (IM x c.fams.length) k).length) (g:=(k,c.fams[k].size)) (by omega);have e1:=AUS (x:=x) (j:=k) (by omega);have e2:=zR (p:=k) (by omega);have hb:=AAS x k;rw[hin]at hst;have hp1:Nat.beq 2 1=false:=rfl;generalize ((x / 2 ^ k:Nat):Int)=X at e1 hb;cases hbit:x.testBit k with
  |true=>
   rw[hbit]at hb hst
   rw[if_pos rfl,List.append_nil]at hst
   obtain⟨g',γ',fr,q1,ih⟩:=APG c hl x d (k+1) g γ (by omega) hg
   refine⟨g',γ',fr,q1,fun n m hm=>?_⟩
   obtain⟨m,rfl⟩:∃m',m=m'+1:=⟨m-1,by omega⟩
   have ih:=ih n m (by omega)
   rw[hst]at ih
   generalize B0 c.fams (IM x c.fams.length) k=R at *
   rw[AC]
   simp only[AD]at ih⊢
   simp at hb
   cases R<;>(simp at ih;simp[hk',hw,sD,e1,e2,-UF,hb,ih])
  |false=>
   rw[hbit]at hb hst
   rw[if_neg (by decide)]at hst
   obtain⟨g',γ',fr,q1,ih⟩:=APG c hl x d (k+1) (g+1) g (by omega) (by omega)
   refine⟨g',γ',fr,q1,fun n m hm=>?_⟩
   obtain⟨m,rfl⟩:∃m',m=m'+1:=⟨m-1,by omega⟩
   have ih:=ih n m (by omega)
   rw[hst]at ih
   generalize B0 c.fams (IM x c.fams.length) k=R at *
   rw[AC]
   simp only[AD]at ih⊢
   simp at hb
   cases R with
   |nil=>simp[CD,QY]at ih happ;simp[hk',hw,sD,e1,e2,-UF,hb,happ,AO,CD,QY,hp1,ih,BO,ET,HV,EW,BV,CB,BK,E7,EQ]
   |cons r R=>simp[CD,QY]at ih happ;simp[hk',hw,sD,e1,e2,-UF,hb,happ,AO,CD,QY,hp1,ih,BO,ET,HV,EW,BV,CB,BK,E7,EQ]
theorem AAT(n:Nat)(c:A3)(hl:c.fams.length≤30)(x:Nat):AW Tryz.prog kn (AE Tryz.prog ann kn (n+200)) 26 [.agg (AD c),i x]=some (sl ((ID c x).map CD)):=by
 rw[AQ rfl,AP Tryz.func26 b26 rfl (by simp[AD,AH,AM,AG,AR,A0,AO])];obtain⟨g',γ',fr,e1,q⟩:=APG c hl x c.fams.length 0 1 0 (by omega) (by omega);have q:=fun n m=>q n (m+100) (by omega);have e0:B0 c.fams (IM x c.fams.length) 0=[]:=rfl;rw[e0]at q;have hcl:∀e∈(ID c x).map CD,∀v∈e,AK 8 v=true:=fun e he v hv=>by obtain⟨l,_,rfl⟩:=List.mem_map.1 he;simp only[CD,List.mem_cons,List.not_mem_nil,or_false]at hv;rcases hv with rfl|rfl<;>rfl
 generalize (ID c x).map CD=R at *;simp only[AD]at q⊢;simp at q e1;simp[c26,AF,q,e1];exact hcl
theorem UO{G:List (Nat×Int)}{ss:List (Int×Int)}{j q:Nat}(h:q<j):A6 G (ss.take j) q=A6 G ss q:=by unfold A6;rw[List.getD_eq_getElem?_getD,List.getD_eq_getElem?_getD,List.getD_eq_getElem?_getD,List.getElem?_take_of_lt h]
theorem oR{c:A3}{G:List (Nat×Int)}{ss:List (Int×Int)}{t:Nat}:JN c G (ss.take (t+1)) t=JN c G ss t:=by
 unfold JN;rw[UO (by omega)];congr 1;have:∀l:List Nat,(∀q∈l,q<t)→l.all (fun q=>RO c (A6 G ss t) (A6 G (ss.take (t+1)) q))=l.all fun q=>RO c (A6 G ss t) (A6 G ss q):=fun l hl=>by
  induction l with
  |nil=>rfl
  |cons x l ih=>rw[List.all_cons,List.all_cons,ih fun y hy=>hl y (by simp[hy]),UO (by have:=hl x (by simp);omega)]
 exact this _ fun q hq=>List.mem_range.1 hq
theorem jA{s:St}(l:List (Int×Int)){j:Nat}(hj:j≤l.length):B4 Tryz.prog s 24 (.list false (l.map AG)) none (some (i j)) none=some (.list false ((l.map AG).take j)):=by have:=bA (P:=Tryz.prog) (s:=s) (T:=24) (e:=59) (es:=l.map AG) (h:=(j:Int)) (b:=false) (by kernel_rfl) (by simp) (by omega) (by rw[List.length_map];omega);simpa using this
theorem XM{P:Program}{s:St}{r:Operand→Option V}(T:TypeId)(x h:Operand):IQ P (eP (.slice T x none (some h) none)) s r=(r x).bind fun a=>(r h).bind fun c=>B4 P s T a none (some c) none:=by show((r x).bind fun a=>(some none).bind fun l=>((r h).map some).bind fun h=>(some none).bind fun m=>B4 P s T a l h m)=_;cases r x<;>cases r h<;>rfl
theorem A0Q(c:A3)(h1:0≤c.beach.rows∧c.beach.rows≤1000)(h2:0≤c.beach.places∧c.beach.places≤1000)(G:List (Nat×Int))(ss:List (Int×Int))(hG:ss.length=G.length)(hs:ss.length≤100)(hf:∀g∈G,g.1<c.fams.length∧0≤g.2∧g.2≤4):∀(d k:Nat),k+d=ss.length→(∀q,q<k→JN c G ss q=true)→∃fr,
  ∀n m,d<m→BC (AE Tryz.prog ann kn (n+1200) 34) YA (ann 34 (BR YA)) m ⟨1,[(1,true,.list false (G.map CD)),(2,true,.list false (ss.map AG)),(3,true,.ptr 0 3 0 0),(7,true,i k)],⟨[],[(3,0,.box (AD c))]⟩⟩ =
   if ((List.range ss.length).drop k).all (JN c G ss)=true then some (.exit 0,⟨1,fr,⟨[],[(3,0,.box (AD c))]⟩⟩) else some (.ret,⟨1,[(6,true,.bool false)],⟨[],[]⟩⟩)
 |0,k,hd,_=>by
  obtain rfl:k=ss.length:=by omega
  rw[List.drop_eq_nil_of_le (by rw[List.length_range];omega)];refine⟨?fr,fun n m hm=>?g9⟩;case g9=>
   obtain⟨m,rfl⟩:∃m',m=m'+1:=⟨m-1,by omega⟩
   rw[AC]
   simp[AD]
   rfl
 |d+1,k,hd,hok=>by
  have hk:k<ss.length:=by omega
  have hw:=BH (k:=k) (by omega);have qsl:=fun s=>jA (s:=s) ss (show k+1≤ss.length by omega);have hlt:(ss.take (k+1)).length=k+1:=by rw[List.length_take];omega
  have hp:∀q,q<k→0≤(A6 G (ss.take (k+1)) q).place∧(A6 G (ss.take (k+1)) q).place≤1000:=fun q hq=>by
   rw[UO (by omega)];have h:=hok q hq;simp only[JN,F8,Bool.and_eq_true,DV]at h;have hg:q<G.length:=by omega
   have hsz:0≤(A6 G ss q).size:=by simp only[A6,List.getD_eq_getElem?_getD,List.getElem?_eq_getElem hg,Option.getD_some];exact(hf _ (List.getElem_mem hg)).2.1
   omega
  have qS:=fun n=>A0I n c h1 h2 G (ss.take (k+1)) k (by rw[hlt];omega) (by rw[hlt]) (by rw[hlt];omega) hf hp;rw[oR]at qS;rw[List.drop_eq_getElem_cons (by rw[List.length_range];omega),List.all_cons,List.getElem_range];cases hz:JN c G ss k with
  |false=>
   rw[hz]at qS
   refine⟨[],fun n m hm=>?_⟩
   obtain⟨m,rfl⟩:∃m',m=m'+1:=⟨m-1,by omega⟩
   rw[AC]
   simp only[AD]at qS⊢
   simp[←List.map_take]at qsl
   simp[←List.map_take,hk,hw,qsl,qS,AG,CD,AR,A0,AO,XM,H5,EC]
  |true=>
   rw[hz]at qS
   obtain⟨fr,ih⟩:=A0Q c h1 h2 G ss hG hs hf d (k+1) (by omega) (fun q hq=>by
    by_cases e:q=k
    ·rw[e];exact hz
    ·exact hok q (by omega))
   refine⟨fr,fun n m hm=>?_⟩
   obtain⟨m,rfl⟩:∃m',m=m'+1:=⟨m-1,by omega⟩
   have ih:=ih n m (by omega)
   generalize ((List.range ss.length).drop (k+1)).all (JN c G ss)=z at ih⊢
   rw[AC]
   simp only[AD]at qS ih⊢
   simp[←List.map_take]at qsl
   cases z<;>(simp at ih;simp[←List.map_take,hk,hw,qsl,qS,AG,CD,AR,A0,AO,XM,H5,EC,ih])
theorem oS(n:Nat)(c:A3)(h1:0≤c.beach.rows∧c.beach.rows≤1000)(h2:0≤c.beach.places∧c.beach.places≤1000)(hch:c.chairs.length≤100)(hcr:∀l∈c.chairs,l.length≤100)(G:List (Nat×Int))(hG:G.length≤100)(ss:List (Int×Int))(hf:∀g∈G,g.1<c.fams.length∧0≤g.2∧g.2≤4):AW Tryz.prog kn (AE Tryz.prog ann kn (n+1600)) 25 [.agg (AD c),.list false (G.map CD),.list false (ss.map AG)]=some (.bool (NV c G ss)):=by
 rw[AQ rfl,AP Tryz.func25 b25 rfl (by simp[AD,AH,AM,AG,AR,A0,AO,CD])];have qP:=fun n=>AG1 n G hG (fun g hg=>(hf g hg).2);have qC:=fun n=>AAQ n c hch hcr;unfold NV;by_cases hl:ss.length=G.length
 ·have hl':(ss.length:Int)=(G.length:Int):=by omega
  obtain⟨fr,q⟩:=A0Q c h1 h2 G ss hl (by omega) hf ss.length 0 (by omega) (fun q hq=>by omega);have q:=fun n m=>q n (m+101) (by omega);rw[List.drop_zero]at q;rw[decide_eq_true hl,Bool.true_and];generalize (List.range ss.length).all (JN c G ss)=z at *;generalize DA G=PG at *;generalize GF c=CN at *;by_cases hp:PG≤(CN:Int)
  ·have hp':¬(CN:Int)<PG:=by omega
   rw[decide_eq_true hp,Bool.true_and];simp only[AD]at q qP qC⊢;cases z<;>(simp at q;simp[c25,AF,hl',qP,qC,hp',q,ET,AG,CD,AR,A0,AO])
  ·have hp':(CN:Int)<PG:=by omega
   rw[decide_eq_false hp,Bool.false_and];simp only[AD]at q qP qC⊢;simp[c25,AF,hl',qP,qC,hp',ET,AG,CD,AR,A0,AO]
 ·have hl':¬(ss.length:Int)=(G.length:Int):=by omega
  rw[decide_eq_false hl,Bool.false_and];simp only[AD]at qP qC⊢;simp[c25,AF,hl',ET,AG,CD,AR,A0,AO]
theorem wQ{H:List (List EI)}{r p:Nat}(h1:r<H.length)(h2:p<H[r].length):XK H r p=H[r][p].good:=by unfold XK;rw[List.getD_eq_getElem?_getD,List.getD_eq_getElem?_getD,List.getElem?_eq_getElem h1];simp only[Option.getD_some];rw[List.getElem?_eq_getElem h2];rfl
theorem sU{H:List (List EI)}(hg:∀l∈H,∀x∈l,0≤x.good∧x.good≤100)(r p:Nat)(n:Nat):0≤NW H r p n∧NW H r p n≤n*100:=by
 refine W3 fun q hq=>?_;have hL:∀x∈H.getD r [],0≤x.good∧x.good≤100:=by
  rw[List.getD_eq_getElem?_getD];cases h:H[r]? with
  |none=>simp
  |some l=>simpa using hg l (List.mem_of_getElem? h)
 unfold XK;generalize H.getD r []=L at *;rw[List.getD_eq_getElem?_getD];cases h:L[p+q]? with
 |none=>exact⟨Int.le_refl _,by decide⟩
 |some x=>exact hL x (List.mem_of_getElem? h)
theorem A0R(f:L9)(H:List (List EI))(hg:∀l∈H,∀x∈l,0≤x.good∧x.good≤100)(r p:Nat)(hr:r<H.length)(hf:0≤f.size∧f.size≤4)(hp:(p:Int)+f.size≤H[r].length)(hl:H[r].length≤100):∀(d k:Nat),k+d=f.size.toNat→∃fr,BZ fr 10=some (true,i (NW H r p f.size.toNat))∧BZ fr 11=some (true,.bool (EU H f.good r p f.size.toNat)) ∧
  ∀n m,d<m→BC (AE Tryz.prog ann kn (n+100) 44) YB (ann 44 (BR YB)) m ⟨3,[(3,true,.list false (H.map BF)),(5,true,.ptr 0 5 1 0),(6,true,.ptr 0 6 2 0),(10,true,i (NW H r p k)),(11,true,.bool (EU H f.good r p k)),(12,true,i k)],⟨[],[(5,1,.box (AO f)),(6,2,.box (AG ((r:Int),(p:Int))))]⟩⟩ =
   some (.exit 0,⟨3,fr,⟨[],[(5,1,.box (AO f)),(6,2,.box (AG ((r:Int),(p:Int))))]⟩⟩)
 |0,k,hd=>by
  obtain rfl:k=f.size.toNat:=by omega
  have hk:((f.size.toNat:Nat):Int)=f.size:=by omega
  generalize NW H r p f.size.toNat=HN;generalize EU H f.good r p f.size.toNat=HP;rw[hk];refine⟨?fr,?g1,?g2,fun n m hm=>?g9⟩;case g9=>
   obtain⟨m,rfl⟩:∃m',m=m'+1:=⟨m-1,by omega⟩
   rw[AC]
   simp[AO,AG]
   rfl
  all_goals simp
 |d+1,k,hd=>by
  have hk:(k:Int)<f.size:=by omega
  have hw:=BH (k:=k) (by omega);have hpk:p+k<H[r].length:=by omega
  have hga:=wQ hr hpk;have hb:=sU hg r p k;have hgb:=hg _ (List.getElem_mem hr) _ (List.getElem_mem hpk);have hwp:IntKind.i64.wrap ((p:Int)+(k:Int))=(p:Int)+(k:Int):=AV (by omega) (by omega);have hp0:(0:Int)≤(p:Int)+(k:Int):=by omega
  have hp1:(p:Int)+(k:Int)<(H[r].length:Int):=by omega
  have hp2:((p:Int)+(k:Int)).toNat=p+k:=by omega
  have hwn:IntKind.i64.wrap (NW H r p k+H[r][p+k].good)=NW H r p k+H[r][p+k].good:=AV (by omega) (by omega);obtain⟨fr,e1,e2,ih⟩:=A0R f H hg r p hr hf hp hl d (k+1) (by omega);refine⟨fr,e1,e2,fun n m hm=>?_⟩;obtain⟨m,rfl⟩:∃m',m=m'+1:=⟨m-1,by omega⟩;have ih:=ih n m (by omega);have s1:NW H r p (k+1)=NW H r p k+H[r][p+k].good:=by rw[←hga];rfl
  have s2:EU H f.good r p (k+1)=(EU H f.good r p k&&decide (f.good≤H[r][p+k].good)):=by unfold EU;rw[List.range_succ,List.all_append,←hga];simp
  rw[s1,s2]at ih;generalize NW H r p k=HN at *;generalize EU H f.good r p k=HP at *;generalize e3:decide (f.good≤H[r][p+k].good)=z at ih;rw[AC];simp only[AO,AG]at ih⊢;cases HP<;>cases z<;>(simp at ih;simp[hk,hw,hr,hpk,hwp,hp0,hp1,hp2,hwn,e3,BF,BI,ET,ih])
theorem A0S(n:Nat)(c:A3)(f:L9)(H:List (List EI))(hg:∀l∈H,∀x∈l,0≤x.good∧x.good≤100)(r p:Nat)(hr:r<H.length)(hf:0≤f.size∧f.size≤4)(hp:(p:Int)+f.size≤H[r].length)(hl:H[r].length≤100):AW Tryz.prog kn (AE Tryz.prog ann kn (n+300)) 29 [.agg (AD c),.agg (AO f),.agg (AG ((r:Int),(p:Int))),.list false (H.map BF)]=some (.tup [i (NW H r p f.size.toNat),.bool (EU H f.good r p f.size.toNat)]):=by rw[AQ rfl,AP Tryz.func29 b29 rfl (by simp[AD,AH,AM,AG,AR,A0,AO,BF,BI])];obtain⟨fr,e1,e2,q⟩:=A0R f H hg r p hr hf hp hl f.size.toNat 0 (by omega);have q:=fun n m=>q n (m+101) (by omega);rw[show NW H r p 0=0 from rfl,show EU H f.good r p 0=true from rfl]at q;generalize NW H r p f.size.toNat=HN at *;generalize EU H f.good r p f.size.toNat=HP at *;simp only[AD,AO,AG]at q⊢;simp at q;simp[c29,AF,q,e1,e2,ET]
theorem AG7(l k:Nat)(o:Option (Nat×AZ))(ls:List (List Bool)):(ls.map AR).map (List.map (BD l k o 3))=ls.map AR:=by rw[List.map_map];exact List.map_congr_left fun x _=>rfl
theorem A0T(ls:List (List Bool)):(ls.map AR).map (List.map eF)=ls.map AR:=by rw[List.map_map];exact List.map_congr_left fun x _=>rfl
theorem LA{P:Program}{fr:Fr}{s:St}(e d c:Nat)(ys:List (List V))(h:CA P e 0 ys=true):zM P e d c fr s .nil ys=some (⟨c+1,(d,true,.vec s.up.length d c ys.length)::fr,s.put s.up.length d c (.vec e ys)⟩,[(s.up.length,d),(s.up.length,d+HV)]):=by unfold zM;simp[IV,h]
theorem A0U{k:Nat}{l:List Bool}(h:k+l.length≤100000):CA Tryz.prog 4 k (l.map A0)=true:=by rw[CH (by simp) (by simp)];simp[maxLen,A0];omega
theorem A0V{k:Nat}(hk:k≤100000)(q g n:Nat):CA Tryz.prog 97 k [[.vec 0 q g n]]=true:=by rw[CH (by simp) (by simp)];simp[maxLen];omega
theorem A0W{k:Nat}{l:List L9}(h:k+l.length≤100000):CA Tryz.prog 94 k (l.map AO)=true:=by rw[CH (by simp) (by simp)];simp[maxLen,AO];omega
abbrev bxC(b:AJ)(p:List (List Int))(v w:V):AZ:=.box (HR b++[sl (p.map AM),v,w])
theorem APH(c:A3)(h1:c.chairs.length≤100)(h2:∀l∈c.chairs,l.length≤100)(cs2:List V)(hcs:∀o,cs2.map (BD 0 28 o 3)=cs2):∀(d k g γ:Nat),k+d=c.chairs.length→2<g→∃g' γ',g≤g'∧∀n m,d<m→BC (AE Tryz.prog ann kn (n+200) 59) YC (ann 59 (BR YC)) m ⟨g,[(1,true,.ptr 0 1 0 0),(2,true,.ptr 0 2 1 0),(3,true,.ptr 0 3 2 0),(4,true,i k)],⟨[],(1,0,.box (AD c))::(2,1,.box cs2)::(3,2,bxC c.beach c.plan (pv 30 γ ((c.chairs.take k).map AR)) .nil)::pl 30 γ 97 ((c.chairs.take k).map AR)⟩⟩ =
  some (.exit 0,⟨g',[(18,true,.bool false),(17,true,i c.chairs.length),(16,true,.list false (c.chairs.map AR)),(15,true,.ptr 0 1 0 10),(14,true,i c.chairs.length),(1,true,.ptr 0 1 0 0),(2,true,.ptr 0 2 1 0),(3,true,.ptr 0 3 2 0),(4,true,i c.chairs.length)],⟨[],(1,0,.box (AD c))::(2,1,.box cs2)::(3,2,bxC c.beach c.plan (pv 30 γ' (c.chairs.map AR)) .nil)::pl 30 γ' 97 (c.chairs.map AR)⟩⟩)
 |0,k,g,γ,hk,hg=>by
  have:k=c.chairs.length:=by omega
  subst this;rw[List.take_length];refine⟨g,γ,Nat.le_refl _,fun n m hm=>?_⟩;obtain⟨m,rfl⟩:∃m',m=m'+1:=⟨m-1,by omega⟩;rw[AC];simp only[AD,bxC,HR];cases c.chairs<;>simp
 |d+1,k,g,γ,hk,hg=>by
  have hk':k<c.chairs.length:=by omega
  have hw:=BH (k:=k) (by omega);have h3:=h2 _ (List.getElem_mem hk');have hst:(c.chairs.take (k+1)).map AR=(c.chairs.take k).map AR++[AR c.chairs[k]]:=by rw[List.take_succ_eq_append_getElem hk',List.map_append];rfl
  have hRl:((c.chairs.take k).map AR).length=k:=by rw[List.length_map,List.length_take];omega
  have hto:=fun o=>AG7 0 28 o (c.chairs.take k);have hwk:=A0T (c.chairs.take k);have hR1:∀e∈(c.chairs.take k).map AR,e.length=1:=fun e he=>by obtain⟨l,_,rfl⟩:=List.mem_map.1 he;rfl
  have ha:=fun q g n=>A0V (k:=((c.chairs.take k).map AR).length) (by omega) q g n;have hai:=A0U (k:=0) (l:=c.chairs[k]) (by omega);generalize hLk:c.chairs[k]=L at *;cases L with
  |nil=>
   obtain⟨g',γ',hgg,ih⟩:=APH c h1 h2 cs2 hcs d (k+1) (g+1+1) (g+1) (by omega) (by omega)
   refine⟨g',γ',by omega,fun n m hm=>?_⟩
   obtain⟨m,rfl⟩:∃m',m=m'+1:=⟨m-1,by omega⟩
   have ih:=ih n m (by omega)
   rw[hst]at ih
   generalize (c.chairs.take k).map AR=R at *
   rw[AC]
   simp only[AD,bxC,HR]at ih⊢
   simp[AR]at hai
   cases R with
   |nil=>simp[AR,lb,QY]at ih ha;simp[show g+1+1=g+2 from rfl,hk',hw,hLk,AR,A0,ha,hai,hcs,PJ,ih,BO,ET,HV,LA,BV,CB,BK,E7,EQ,show 2<g+2 by omega]
   |cons r R=>
    have hR2:=hR1 r (by simp)
    have hR3:=eq_true (fun e he=>hR1 e (List.mem_cons_of_mem r he):∀e∈R,e.length=1)
    simp[AR,lb,QY]at ih ha hto hwk
    simp[show g+1+1=g+2 from rfl,hk',hw,hLk,AR,A0,ha,hai,hcs,ih,hto,hwk,hR2,hR3,PJ,QY,BO,ET,HV,LA,BV,CB,BK,E7,EQ,show 2<g+2 by omega]
  |cons x L=>
   obtain⟨g',γ',hgg,ih⟩:=APH c h1 h2 cs2 hcs d (k+1) (g+1+1) (g+1) (by omega) (by omega)
   refine⟨g',γ',by omega,fun n m hm=>?_⟩
   obtain⟨m,rfl⟩:∃m',m=m'+1:=⟨m-1,by omega⟩
   have ih:=ih n m (by omega)
   rw[hst]at ih
   generalize (c.chairs.take k).map AR=R at *
   rw[AC]
   simp only[AD,bxC,HR]at ih⊢
   simp[AR,A0]at hai
   cases R with
   |nil=>simp[AR,A0,lb,QY]at ih ha;simp[show g+1+1=g+2 from rfl,hk',hw,hLk,AR,A0,ha,hai,hcs,PJ,ih,BO,ET,HV,LA,BV,CB,BK,E7,EQ,show 2<g+2 by omega]
   |cons r R=>
    have hR2:=hR1 r (by simp)
    have hR3:=eq_true (fun e he=>hR1 e (List.mem_cons_of_mem r he):∀e∈R,e.length=1)
    simp[AR,A0,lb,QY]at ih ha hto hwk
    simp[show g+1+1=g+2 from rfl,hk',hw,hLk,AR,A0,ha,hai,hcs,ih,hto,hwk,hR2,hR3,PJ,QY,BO,ET,HV,LA,BV,CB,BK,E7,EQ,show 2<g+2 by omega]
theorem A0X(c:A3)(h1:c.fams.length≤100)(cs2:List V)(γ3:Nat)(R:List (List V)):∀(d k g γ:Nat),k+d=c.fams.length→2<g→∃g' γ',g≤g'∧∀n m,d<m→BC (AE Tryz.prog ann kn (n+200) 59) YD (ann 59 (BR YD)) m ⟨g,[(1,true,.ptr 0 1 0 0),(2,true,.ptr 0 2 1 0),(3,true,.ptr 0 3 2 0),(5,true,i k)],⟨[],(1,0,.box (AD c))::(2,1,.box cs2)::(3,2,bxC c.beach c.plan (pv 30 γ3 R) (pv 56 γ ((c.fams.take k).map AO)))::(pl 30 γ3 97 R++pl 56 γ 94 ((c.fams.take k).map AO))⟩⟩ =
  some (.exit 2,⟨g',[(36,true,.bool false),(35,true,i c.fams.length),(34,true,.list false (c.fams.map AO)),(33,true,.ptr 0 1 0 11),(32,true,i c.fams.length),(1,true,.ptr 0 1 0 0),(2,true,.ptr 0 2 1 0),(3,true,.ptr 0 3 2 0),(5,true,i c.fams.length)],⟨[],(1,0,.box (AD c))::(2,1,.box cs2)::(3,2,bxC c.beach c.plan (pv 30 γ3 R) (pv 56 γ' (c.fams.map AO)))::(pl 30 γ3 97 R++pl 56 γ' 94 (c.fams.map AO))⟩⟩)
 |0,k,g,γ,hk,hg=>by
  have:k=c.fams.length:=by omega
  subst this;rw[List.take_length];refine⟨g,γ,Nat.le_refl _,fun n m hm=>?_⟩;obtain⟨m,rfl⟩:∃m',m=m'+1:=⟨m-1,by omega⟩;rw[AC];simp only[AD,bxC,HR];cases R<;>cases c.fams<;>simp
 |d+1,k,g,γ,hk,hg=>by
  have hk':k<c.fams.length:=by omega
  have hw:=BH (k:=k) (by omega);have hst:(c.fams.take (k+1)).map AO=(c.fams.take k).map AO++[AO c.fams[k]]:=by rw[List.take_succ_eq_append_getElem hk',List.map_append];rfl
  have hRl:((c.fams.take k).map AO).length=k:=by rw[List.length_map,List.length_take];omega
  have hS1:∀e∈(c.fams.take k).map AO,e.length=4:=fun e he=>by obtain⟨l,_,rfl⟩:=List.mem_map.1 he;rfl
  have ha:=A0W (k:=((c.fams.take k).map AO).length) (l:=[c.fams[k]]) (by rw[hRl];simp;omega);obtain⟨g',γ',hgg,ih⟩:=A0X c h1 cs2 γ3 R d (k+1) (g+1+1) (g+1) (by omega) (by omega);refine⟨g',γ',by omega,fun n m hm=>?_⟩;obtain⟨m,rfl⟩:∃m',m=m'+1:=⟨m-1,by omega⟩;have ih:=ih n m (by omega);rw[hst]at ih;generalize (c.fams.take k).map AO=S at *;generalize hLk:c.fams[k]=f at *;rw[AC];simp only[AD,bxC,HR]at ih⊢;cases S with
  |nil=>cases R<;>(simp[AO,QY]at ih ha;simp[hk',hw,hLk,AO,QY,ha,ih,BO,ET,HV,LA,BV,CB,BK,E7,EQ,show 0<g by omega,show 1<g by omega,show 2<g by omega])
  |cons q S=>
   have hS2:=hS1 q (by simp)
   have hS3:=eq_true (fun e he=>hS1 e (List.mem_cons_of_mem q he):∀e∈S,e.length=4)
   cases R<;>(simp[AO,QY]at ih ha;simp[hk',hw,hLk,AO,QY,ha,ih,hS2,hS3,BO,ET,HV,LA,BV,CB,BK,E7,EQ,show 0<g by omega,show 1<g by omega,show 2<g by omega])
def PK(c:A3):List V:=HR c.beach++[sl (c.plan.map AM),sl (c.chairs.map AR),sl (c.fams.map AO)]
theorem API(n:Nat)(c:A3)(ht:cS c=true):AW Tryz.prog kn (AE Tryz.prog ann kn (n+900)) 21 [.agg (AD c)]=some (.agg (PK c)):=by
 rw[AQ rfl,AP Tryz.func21 b21 rfl (by simp[AD,AH,AM,AG,AR,A0,AO])];obtain⟨t1,t2,t3,t4,t5,t6⟩:=XL ht;simp only[UG,Bool.and_eq_true,Bool.not_eq_true',Bool.or_eq_false_iff,Bool.not_eq_false',decide_eq_false_iff_not]at t1;obtain⟨⟨⟨⟨⟨u1,u2⟩,u3⟩,u4⟩,u5⟩,_⟩:=t1;obtain⟨u6,u7⟩:=VU u3;have qB:=fun n=>AUY n c.beach (by omega) (by omega) (by omega) (fun l hl=>by have:=u7 l hl;omega) (by omega) (by omega);have qL:=fun n=>AG4 n c.plan (by omega) (fun l hl=>by have:=t5 l hl;omega);have hz:∀o,([i 0,i 0,i 0,i 0,.nil,.nil,.nil,.nil,.nil,.nil,.nil,.nil]:List V).map (BD 0 28 o 3)=[i 0,i 0,i 0,i 0,.nil,.nil,.nil,.nil,.nil,.nil,.nil,.nil]:=fun o=>rfl;obtain⟨g1,γ1,h1,q1⟩:=APH c (by omega) (fun l hl=>by have:=t6 l hl;omega) _ hz c.chairs.length 0 3 0 (by omega) (by omega);obtain⟨g2,γ2,h2,q2⟩:=A0X c (by omega) [i 0,i 0,i 0,i 0,.nil,.nil,.nil,.nil,.nil,.nil,.nil,.nil] γ1 (c.chairs.map AR) c.fams.length 0 g1 0 (by omega) (by omega);have q1:=fun n m=>q1 n (m+100) (by omega);have q2:=fun n m=>q2 n (m+100) (by omega);rw[show(c.chairs.take 0).map AR=[] from rfl]at q1;rw[show(c.fams.take 0).map AO=[] from rfl]at q2;have hg2:1<g2:=by omega
 have c1:∀e∈c.chairs.map AR,∀v∈e,AK 7 v=true:=fun e he v hv=>by obtain⟨l,_,rfl⟩:=List.mem_map.1 he;simp only[AR,List.mem_cons,List.not_mem_nil,or_false]at hv;subst hv;simp[A0]
 have c2:∀e∈c.fams.map AO,∀v∈e,AK 7 v=true:=fun e he v hv=>by obtain⟨l,_,rfl⟩:=List.mem_map.1 he;simp only[AO,List.mem_cons,List.not_mem_nil,or_false]at hv;rcases hv with rfl|rfl|rfl|rfl<;>rfl
 unfold PK;simp only[AD,AB,bxC,HR]at q1 q2 qB qL⊢;generalize c.chairs.map AR=R at *;generalize c.fams.map AO=S at *;cases R with
 |nil=>
  cases S with
  |nil=>
   simp at q1 q2
   simp[c21,AF,qB,qL,q1,q2,hg2,QY,slN,slC,BO,ET,HV,BV,CB,BK,E7,EQ]
  |cons t S=>
   have s1:=eq_true (c2 t (by simp))
   have s2:=eq_true (fun e he=>c2 e (List.mem_cons_of_mem t he):∀e∈S,∀v∈e,AK 7 v=true)
   simp[QY]at q1 q2
   simp[c21,AF,qB,qL,q1,q2,s1,s2,hg2,QY,slN,slC,BO,ET,HV,BV,CB,BK,E7,EQ]
 |cons r R=>
  have r1:=eq_true (c1 r (by simp))
  have r2:=eq_true (fun e he=>c1 e (List.mem_cons_of_mem r he):∀e∈R,∀v∈e,AK 7 v=true)
  cases S with
  |nil=>
   simp[QY]at q1 q2
   simp[c21,AF,qB,qL,q1,q2,r1,r2,hg2,QY,slN,slC,BO,ET,HV,BV,CB,BK,E7,EQ]
  |cons t S=>
   have s1:=eq_true (c2 t (by simp))
   have s2:=eq_true (fun e he=>c2 e (List.mem_cons_of_mem t he):∀e∈S,∀v∈e,AK 7 v=true)
   simp[QY]at q1 q2
   simp[c21,AF,qB,qL,q1,q2,r1,r2,s1,s2,hg2,QY,slN,slC,BO,ET,HV,BV,CB,BK,E7,EQ]
theorem AL1(c:A3)(hl:c.chairs.length≤100):∀(d k:Nat),k+d=c.chairs.length→∃fr,BZ fr 1=some (true,.ptr 0 1 0 0) ∧
  ∀n m,d<m→BC (AE Tryz.prog ann kn (n+100) 76) S3 (ann 76 (BR S3)) m ⟨1,[(1,true,.ptr 0 1 0 0),(4,true,i k)],⟨[],[(1,0,.box (AD c))]⟩⟩ =
   if (c.chairs.drop k).all (fun l=>decide ((l.length:Int)=c.beach.places))=true then some (.exit 0,⟨1,fr,⟨[],[(1,0,.box (AD c))]⟩⟩) else some (.ret,⟨1,[(2,true,i 1)],⟨[],[]⟩⟩)
 |0,k,hk=>by
  have:k=c.chairs.length:=by omega
  subst this;rw[List.drop_length];refine⟨?fr,?g1,fun n m hm=>?g2⟩;case g2=>
   obtain⟨m,rfl⟩:∃m',m=m'+1:=⟨m-1,by omega⟩
   rw[AC]
   simp[AD]
   rfl
  case g1=>simp
 |d+1,k,hk=>by
  have hk':k<c.chairs.length:=by omega
  have hw:=BH (k:=k) (by omega);obtain⟨fr,e1,ih⟩:=AL1 c hl d (k+1) (by omega);rw[List.drop_eq_getElem_cons hk',List.all_cons];refine⟨fr,e1,fun n m hm=>?_⟩;obtain⟨m,rfl⟩:∃m',m=m'+1:=⟨m-1,by omega⟩;have ih:=ih n m (by omega);generalize e1:decide ((c.chairs[k].length:Int)=c.beach.places)=z1;generalize (c.chairs.drop (k+1)).all (fun l=>decide ((l.length:Int)=c.beach.places))=z at ih⊢;rw[AC];simp only[AD]at ih⊢;cases z1<;>cases z<;>(simp at ih;simp[AR,hk',hw,e1,ih])
theorem AL2(c:A3)(hl:c.fams.length≤100):∀(d k:Nat),k+d=c.fams.length→∃fr,
  ∀n m,d<m→BC (AE Tryz.prog ann kn (n+200) 76) S4 (ann 76 (BR S4)) m ⟨1,[(1,true,.ptr 0 1 0 0),(5,true,i k)],⟨[],[(1,0,.box (AD c))]⟩⟩ =
   if (c.fams.drop k).all KJ=true then some (.exit 2,⟨1,fr,⟨[],[(1,0,.box (AD c))]⟩⟩) else some (.ret,⟨1,[(2,true,i 1)],⟨[],[]⟩⟩)
 |0,k,hk=>by
  have:k=c.fams.length:=by omega
  subst this;rw[List.drop_length];refine⟨?fr,fun n m hm=>?g2⟩;case g2=>
   obtain⟨m,rfl⟩:∃m',m=m'+1:=⟨m-1,by omega⟩
   rw[AC]
   simp[AD]
   rfl
 |d+1,k,hk=>by
  have hk':k<c.fams.length:=by omega
  have hw:=BH (k:=k) (by omega);obtain⟨fr,ih⟩:=AL2 c hl d (k+1) (by omega);rw[List.drop_eq_getElem_cons hk',List.all_cons];refine⟨fr,fun n m hm=>?_⟩;obtain⟨m,rfl⟩:∃m',m=m'+1:=⟨m-1,by omega⟩;have ih:=ih n m (by omega);have ef:KJ c.fams[k]=(FU c.fams[k].size 1 4&&FU c.fams[k].good 0 5):=rfl;have q1:=fun n=>kIn n c.fams[k].size 1 4;have q2:=fun n=>kIn n c.fams[k].good 0 5;rw[ef];generalize FU c.fams[k].size 1 4=z1 at *;generalize FU c.fams[k].good 0 5=z2 at *;generalize (c.fams.drop (k+1)).all KJ=z at ih⊢;rw[AC];simp only[AD]at ih⊢;cases z1<;>cases z2<;>cases z<;>(simp at ih;simp[AO,hk',hw,q1,q2,ih])
theorem AG8(n:Nat)(c:A3)(hw:∀l∈c.beach.winds,l.length≤100)(hp:c.plan.length≤100)(hch:c.chairs.length≤100):AW Tryz.prog kn (AE Tryz.prog ann kn (n+2400)) 70 [.agg (AD c)]=some (i (DM c)):=by
 rw[AQ rfl,AP Tryz.func70 b70 rfl (by simp[AD,AH,AM,AG,AR,A0,AO])];have qf:=fun n=>AF2 n c.beach hw;unfold DM;by_cases a1:3<c.fams.length
 ·have e1:(3:Int)<(c.fams.length:Int):=by omega
  rw[if_pos a1];simp only[AD];simp[c70,AF,e1]
 rw[if_neg a1];have e1:¬(3:Int)<(c.fams.length:Int):=by omega
 by_cases a2:CE c.beach≠0
 ·rw[if_pos a2];simp only[AD,AB]at qf⊢;simp[c70,AF,e1,qf,a2,AM,AH,AG]
 rw[if_neg a2];have a2:CE c.beach=0:=by simpa using a2
 have hb:=OC a2;have qp:=fun n=>AFT n c.beach hb c.plan hp;have qt:=fun n=>cT n c.beach hb;rw[a2]at qf;by_cases a3:DJ c.beach c.plan=false
 ·rw[if_pos a3];rw[a3]at qp;simp only[AD,AB]at qf qp⊢;simp[c70,AF,e1,qf,qp,AM,AH,AG]
 rw[if_neg a3];have a3:DJ c.beach c.plan=true:=by simpa using a3
 rw[a3]at qp;by_cases a4:BJ c.beach=[]
 ·rw[if_pos a4];rw[a4]at qt;simp only[AD,AB]at qf qp qt⊢;simp at qt;simp[c70,AF,e1,qf,qp,qt,AM,AH,AG]
 rw[if_neg a4];have a4':¬((BJ c.beach).length:Int)=0:=fun h=>a4 (List.eq_nil_of_length_eq_zero (by omega));by_cases a5:(c.chairs.length:Int)=c.beach.rows
 ·have ec:G5 c=c.chairs.all (fun l=>decide ((l.length:Int)=c.beach.places)):=by unfold G5;rw[decide_eq_true a5,Bool.true_and]
  rw[ec];obtain⟨f1,g1,q1⟩:=AL1 c hch c.chairs.length 0 (by omega);obtain⟨f2,q2⟩:=AL2 c (by omega) c.fams.length 0 (by omega);have q1:=fun n m=>q1 n (m+101) (by omega);have q2:=fun n m=>q2 n (m+101) (by omega);rw[List.drop_zero]at q1 q2;generalize c.chairs.all (fun l=>decide ((l.length:Int)=c.beach.places))=y1 at *;generalize c.fams.all KJ=y2 at *;generalize BJ c.beach=T at *;simp only[AD,AB]at qf qp qt q1 q2⊢;cases y1<;>cases y2<;>(simp at q1 q2;simp[c70,AF,e1,qf,qp,qt,a4,a4',a5,q1,q2,g1,AM,AH,AG])
 ·have ec:G5 c=false:=by unfold G5;rw[decide_eq_false a5,Bool.false_and]
  rw[if_pos ec];generalize BJ c.beach=T at *;simp only[AD,AB]at qf qp qt⊢;simp[c70,AF,e1,qf,qp,qt,a4,a4',a5,AM,AH,AG]
theorem AG9(n:Nat)(c:A3)(hw:∀l∈c.beach.winds,l.length≤100)(hp:c.plan.length≤100)(hch:c.chairs.length≤100):AW Tryz.prog kn (AE Tryz.prog ann kn (n+2500)) 23 [.agg (AD c)]=some (i (DM c)):=by rw[AQ rfl,AP Tryz.func23 b23 rfl (by simp[AD,AH,AM,AG,AR,A0,AO])];have q:=fun n=>AG8 n c hw hp hch;generalize DM c=E at *;simp only[AD]at q⊢;simp[c23,AF,q,AM,AH,AG,AR,A0,AO]
end Go.Proofs.Tryz.Op
