/- Contracts of the reference: People, Chairs, Minds, Groups. No condition but small numbers. -/
import Derived.Test.YthhdhbalenanjaaGreatC1
import Derived.Test.YthhdhbalenanjaaGreatW1
import Derived.Test.YthhdhbalenanjaaGreatFz
import Derived.Test.YthhdhbalenanjaaGreatA1
import Derived.Test.YthhdhbalenanjaaGreatL
import Derived.Test.YthhdhbalenanjaaGreatV1
import Derived.Test.YthhdhbalenanjaaGreatEa
set_option maxRecDepth 100000
set_option linter.unusedSimpArgs false
open Go Go.Pg Go.Proofs Go.Wind
namespace Go.Wind
def DA(G:List (Nat×Int)):Int:=(G.map (·.2)).sum
theorem eX{G:List (Nat×Int)}{k:Nat}(h:k<G.length):DA (G.take (k+1))=DA (G.take k)+G[k].2:=by unfold DA;rw[List.take_succ_eq_append_getElem h,List.map_append,List.sum_append];simp
theorem XD:∀{G:List (Nat×Int)},(∀g∈G,0≤g.2∧g.2≤4)→0≤DA G∧DA G≤4*G.length
 |[],_=>by simp[DA]
 |g::G,h=>by have ih:=XD (G:=G) fun x hx=>h x (by simp[hx]);have h1:=h g (by simp);simp only[DA,List.map_cons,List.sum_cons,List.length_cons]at ih⊢;omega
end Go.Wind
namespace Go.Proofs.Tryz.Op
theorem AZT(G:List (Nat×Int))(hl:G.length≤100)(hg:∀g∈G,0≤g.2∧g.2≤4):∀(d k:Nat),k+d=G.length→∀n m,d<m→A9 (AE Tryz.prog ann kn (n+100) 19) XR (ann 19 (BS XR)) m ⟨0,[(0,true,.list false (G.map B0)),(3,true,i (DA (G.take k))),(4,true,i k)],⟨[],[]⟩⟩ =
  some (.exit 0,⟨0,[(8,true,.bool false),(7,true,i G.length),(6,true,.list false (G.map B0)),(5,true,i G.length),(0,true,.list false (G.map B0)),(3,true,i (DA G)),(4,true,i G.length)],⟨[],[]⟩⟩)
 |0,k,hk,n,m+1,hm=>by
  obtain rfl:k=G.length:=by omega
  rw[List.take_length,AB];simp
 |d+1,k,hk,n,m+1,hm=>by
  have hk':k<G.length:=by omega
  have hw:=BJ (k:=k) (by omega);have h1:=hg G[k] (List.getElem_mem hk');have h2:=XD (G:=G.take k) fun x hx=>hg x (List.mem_of_mem_take hx);have h3:(G.take k).length≤100:=by rw[List.length_take];omega
  have hwp:IntKind.i64.wrap (DA (G.take k)+G[k].2)=DA (G.take k)+G[k].2:=AS (by omega) (by omega);have ih:=AZT G hl hg d (k+1) (by omega) n m (by omega);rw[eX hk']at ih;generalize DA (G.take k)=S at *;generalize DA G=SS at *;rw[AB];simp at ih;simp[hk',hw,hwp,B0,ih]
theorem AGI(n:Nat)(G:List (Nat×Int))(hl:G.length≤100)(hg:∀g∈G,0≤g.2∧g.2≤4):AW Tryz.prog kn (AE Tryz.prog ann kn (n+300)) 72 [.list false (G.map B0)]=some (i (DA G)):=by rw[AP rfl,AO Tryz.func72 b72 rfl (by simp[B0])];have q:=fun n m=>AZT G hl hg G.length 0 (by omega) n (m+101) (by omega);rw[show DA (G.take 0)=0 from rfl]at q;generalize DA G=S at *;simp at q;simp[c72,AG,q]
theorem AZU(c:A0)(r:Nat)(hr:r<c.chairs.length)(hl:c.chairs[r].length≤100)(N:Nat)(hN:N≤100000):∀(d j:Nat),j+d=c.chairs[r].length→∃fr,BQ fr 1=some (true,.ptr 0 1 0 0)∧BQ fr 3=some (true,i ((N+c.chairs[r].count true:Nat):Int))∧BQ fr 4=some (true,i r)∧∀n m,d<m→A9 (AE Tryz.prog ann kn (n+200) 34) XT (ann 34 (BS XT)) m ⟨1,[(1,true,.ptr 0 1 0 0),(3,true,i ((N+(c.chairs[r].take j).count true:Nat):Int)),(4,true,i r),(5,true,i j)],⟨[],[(1,0,.box (AD c))]⟩⟩ =
  some (.exit 2,⟨1,fr,⟨[],[(1,0,.box (AD c))]⟩⟩)
 |0,j,hd=>by
  obtain rfl:j=c.chairs[r].length:=by omega
  rw[List.take_length];refine⟨?fr,?g1,?g3,?g4,fun n m hm=>?g2⟩;case g2=>
   obtain⟨m,rfl⟩:∃m',m=m'+1:=⟨m-1,by omega⟩
   rw[AB]
   simp[AD,hr,AR]
   rfl
  case g1=>simp
  case g3=>simp
  case g4=>simp
 |d+1,j,hd=>by
  have hj:j<c.chairs[r].length:=by omega
  have hw:=BJ (k:=j) (by omega);obtain⟨fr,g1,g3,g4,ih⟩:=AZU c r hr hl N hN d (j+1) (by omega);refine⟨fr,g1,g3,g4,fun n m hm=>?_⟩;obtain⟨m,rfl⟩:∃m',m=m'+1:=⟨m-1,by omega⟩;have ih:=ih n m (by omega);rw[XA _ hj]at ih;have hcl:(c.chairs[r].take j).count true≤100:=by have:=List.count_le_length (a:=true) (l:=c.chairs[r].take j);rw[List.length_take]at this;omega
  generalize (c.chairs[r].take j).count true=C at *;have hwC2:IntKind.i64.wrap ((N:Int)+(C:Int)+1)=((N:Int)+((C:Int)+1)):=by rw[AS (by omega) (by omega)];omega
  rw[AB];simp only[AD]at ih⊢;cases hz:c.chairs[r][j]with
  |true=>
   rw[hz,if_pos rfl]at ih
   simp at ih
   simp[hr,hj,hw,hz,AR,AY,hwC2,ih]
  |false=>
   rw[hz,if_neg (by decide),Nat.add_zero]at ih
   simp at ih
   simp[hr,hj,hw,hz,AR,AY,ih]
theorem AZV(c:A0)(hl:c.chairs.length≤100)(hr:∀l∈c.chairs,l.length≤100):∀(d r N:Nat),r+d=c.chairs.length→N≤100*r→∃fr,BQ fr 3=some (true,i ((N+((c.chairs.drop r).map fun l=>l.count true).sum:Nat):Int))∧∀n m,d<m→A9 (AE Tryz.prog ann kn (n+400) 34) XU (ann 34 (BS XU)) m ⟨1,[(1,true,.ptr 0 1 0 0),(3,true,i N),(4,true,i r)],⟨[],[(1,0,.box (AD c))]⟩⟩ =
  some (.exit 0,⟨1,fr,⟨[],[(1,0,.box (AD c))]⟩⟩)
 |0,r,N,hd,hN=>by
  obtain rfl:r=c.chairs.length:=by omega
  refine⟨?fr,?g3,fun n m hm=>?g2⟩;case g2=>
   obtain⟨m,rfl⟩:∃m',m=m'+1:=⟨m-1,by omega⟩
   rw[AB]
   simp[AD]
   rfl
  case g3=>simp
 |d+1,r,N,hd,hN=>by
  have hj:r<c.chairs.length:=by omega
  have hw:=BJ (k:=r) (by omega);have hlj:=hr c.chairs[r] (List.getElem_mem hj);obtain⟨f1,g1,g3,g4,q⟩:=AZU c r hj hlj N (by omega) c.chairs[r].length 0 (by omega);have q:=fun n m=>q n (m+101) (by omega);have hcl:=List.count_le_length (a:=true) (l:=c.chairs[r]);obtain⟨fr,e3,ih⟩:=AZV c hl hr d (r+1) (N+c.chairs[r].count true) (by omega) (by omega);have hs:N+c.chairs[r].count true+((c.chairs.drop (r+1)).map fun l=>l.count true).sum=N+((c.chairs.drop r).map fun l=>l.count true).sum:=by rw[List.drop_eq_getElem_cons hj,List.map_cons,List.sum_cons];omega
  rw[hs]at e3;refine⟨fr,e3,fun n m hm=>?_⟩;obtain⟨m,rfl⟩:∃m',m=m'+1:=⟨m-1,by omega⟩;have ih:=ih n m (by omega);generalize c.chairs[r].count true=C at *;simp only[List.take_zero,List.count_nil,Nat.add_zero]at q;rw[AB];simp only[AD]at ih q⊢;simp at ih q g3;simp[hj,hw,AR,q,g1,g3,g4,ih]
theorem AAB(n:Nat)(c:A0)(hl:c.chairs.length≤100)(hr:∀l∈c.chairs,l.length≤100):AW Tryz.prog kn (AE Tryz.prog ann kn (n+600)) 73 [.agg (AD c)]=some (i (F7 c)):=by rw[AP rfl,AO Tryz.func73 b73 rfl (by simp[AD,AH,AL,AF,AR,AY,AQ])];obtain⟨fr,g3,q⟩:=AZV c hl hr c.chairs.length 0 0 (by omega) (by omega);have q:=fun n m=>q n (m+101) (by omega);have e:((c.chairs.drop 0).map fun l=>l.count true).sum=F7 c:=rfl;rw[e,Nat.zero_add]at g3;generalize F7 c=T at *;simp only[AD]at q⊢;simp at q g3;simp[c73,AG,q,g3]
theorem AGJ(n:Nat)(c:A0)(a b:Nat)(ha:a<c.fams.length)(hb:b<c.fams.length):AW Tryz.prog kn (AE Tryz.prog ann kn (n+300)) 122 [.agg (AD c),i a,i b]=some (.bool (KK c a b)):=by
 rw[AP rfl,AO Tryz.func122 BDP rfl (by simp[AD,AH,AL,AF,AR,AY,AQ])];unfold KK;rw[WU ha,WU hb];have e:decide ((a:Int)=(b:Int))=decide (a=b):=decide_eq_decide.2 (by omega);have e2:decide (a≠b)=!decide (a=b):=by simp
 rw[e2];generalize decide (a=b)=z at *;rcases hF1:c.fams[a]with⟨s1,g1,d1,h1⟩;rcases hF2:c.fams[b]with⟨s2,g2,d2,h2⟩;simp only[AD];have p1:Nat.beq 4 1=false:=rfl;cases z<;>cases d1<;>cases h1<;>cases d2<;>cases h2<;>simp[A1Y,AG,e,ha,hb,hF1,hF2,AQ,BF,BR,BW,A8,D9,DY,E1,F9,p1]
end Go.Proofs.Tryz.Op
namespace Go.Wind
def A4(G:List (Nat×Int))(ss:List (Int×Int))(k:Nat):Sp:=⟨(G.getD k (0,0)).1,(G.getD k (0,0)).2,(ss.getD k (0,0)).1,(ss.getD k (0,0)).2⟩
def KM(c:A0)(x y:Sp)(a b:Nat):Bool :=
 let d:=y.place+(a:Int)-x.place-(b:Int)
 decide (d=0)||((decide (d=1)||decide (d = -1))&&KK c y.fam x.fam)
theorem wA(c:A0)(x y:Sp):QO c x y=(List.range y.size.toNat).any fun a=>(List.range x.size.toNat).any (KM c x y a):=rfl
def RK(c:A0)(x y:Sp):Bool:=decide (y.row≠x.row)||!QO c x y
end Go.Wind
namespace Go.Proofs.Tryz.Op
section
variable (c:A0)(G:List (Nat×Int))(ss:List (Int×Int))(t q:Nat)
set_option maxHeartbeats 1000000 in
theorem ALH(hG:ss.length≤G.length)(ht:t+1=ss.length)(hq:q<t)(hs:ss.length≤100)(hf:∀g∈G,g.1<c.fams.length∧0≤g.2∧g.2≤4)(hp:0≤(A4 G ss q).place∧(A4 G ss q).place≤1000)(hx:0≤(A4 G ss t).place∧(A4 G ss t).place≤1000)(a:Nat)(ha:a≤4):∀(d b:Nat),b+d=(A4 G ss t).size.toNat→∃fr,BQ fr 1=some (true,.list false (G.map B0))∧BQ fr 2=some (true,.list false (ss.map AF))∧BQ fr 3=some (true,.ptr 0 3 0 0)∧BQ fr 7=some (true,i t)∧BQ fr 8=some (true,.ptr 0 8 1 0)∧BQ fr 9=some (true,i (A4 G ss t).size)∧BQ fr 10=some (true,i q)∧BQ fr 11=some (true,i a) ∧
  ∀n m,d<m→A9 (AE Tryz.prog ann kn (n+400) 112) SQ (ann 112 (BS SQ)) m ⟨2,[(1,true,.list false (G.map B0)),(2,true,.list false (ss.map AF)),(3,true,.ptr 0 3 0 0),(7,true,i t),(8,true,.ptr 0 8 1 0),(9,true,i (A4 G ss t).size),(10,true,i q),(11,true,i a),(12,true,i b)],⟨[],[(3,0,.box (AD c)),(8,1,.box [i (A4 G ss t).row,i (A4 G ss t).place])]⟩⟩ =
   if ((List.range (A4 G ss t).size.toNat).drop b).any (KM c (A4 G ss t) (A4 G ss q) a)=true then some (.ret,⟨2,[(6,true,.bool false)],⟨[],[]⟩⟩) else some (.exit 4,⟨2,fr,⟨[],[(3,0,.box (AD c)),(8,1,.box [i (A4 G ss t).row,i (A4 G ss t).place])]⟩⟩)
 |0,b,hd=>by
  have hgt:t<G.length:=by omega
  have h1:=hf G[t] (List.getElem_mem hgt);have hge:(A4 G ss t).size=G[t].2:=by simp[A4,List.getD_eq_getElem?_getD,List.getElem?_eq_getElem hgt]
  have hb:(b:Int)=(A4 G ss t).size:=by omega
  rw[List.drop_eq_nil_of_le (by rw[List.length_range];omega),hb];refine⟨?fr,?g1,?g2,?g3,?g4,?g5,?g6,?g7,?g8,fun n m hm=>?g9⟩;case g9=>
   obtain⟨m,rfl⟩:∃m',m=m'+1:=⟨m-1,by omega⟩
   rw[AB]
   simp[AD]
   rfl
  all_goals simp
 |d+1,b,hd=>by
  have hgt:t<G.length:=by omega
  have hgq:q<G.length:=by omega
  have hsq:q<ss.length:=by omega
  have h1:=hf G[t] (List.getElem_mem hgt);have h2:=hf G[q] (List.getElem_mem hgq);have et:(A4 G ss t).size=G[t].2:=by simp[A4,List.getD_eq_getElem?_getD,List.getElem?_eq_getElem hgt]
  have et1:(A4 G ss t).fam=G[t].1:=by simp[A4,List.getD_eq_getElem?_getD,List.getElem?_eq_getElem hgt]
  have eq1:(A4 G ss q).fam=G[q].1:=by simp[A4,List.getD_eq_getElem?_getD,List.getElem?_eq_getElem hgq]
  have eq2:(A4 G ss q).place=ss[q].2:=by simp[A4,List.getD_eq_getElem?_getD,List.getElem?_eq_getElem hsq]
  have hlt:(b:Int)<(A4 G ss t).size:=by omega
  have hw:=BJ (k:=b) (by omega);have qm:=fun n=>AGJ n c G[q].1 G[t].1 h2.1 h1.1;have w1:IntKind.i64.wrap (ss[q].2+(a:Int))=ss[q].2+a:=AS (by omega) (by omega);have w2:IntKind.i64.wrap (ss[q].2+(a:Int)-(A4 G ss t).place)=ss[q].2+a-(A4 G ss t).place:=AS (by omega) (by omega);obtain⟨D,hD⟩:∃D,ss[q].2+(a:Int)-(A4 G ss t).place-b=D:=⟨_,rfl⟩;have w3:IntKind.i64.wrap (ss[q].2+(a:Int)-(A4 G ss t).place-b)=D:=by rw[AS (by omega) (by omega),hD]
  obtain⟨fr,g1,g2,g3,g4,g5,g6,g7,g8,ih⟩:=ALH hG ht hq hs hf hp hx a ha d (b+1) (by omega);refine⟨fr,g1,g2,g3,g4,g5,g6,g7,g8,fun n m hm=>?_⟩;obtain⟨m,rfl⟩:∃m',m=m'+1:=⟨m-1,by omega⟩;have ih:=ih n m (by omega);rw[List.drop_eq_getElem_cons (by rw[List.length_range];omega),List.any_cons,List.getElem_range];have ec:KM c (A4 G ss t) (A4 G ss q) a b=(decide (ss[q].2+(a:Int)-(A4 G ss t).place-b=0)||((decide (ss[q].2+(a:Int)-(A4 G ss t).place-b=1)||decide (ss[q].2+(a:Int)-(A4 G ss t).place-b = -1))&&KK c G[q].1 G[t].1)):=by unfold KM;rw[eq1,et1,eq2]
  rw[ec,hD];clear hD ec;generalize ((List.range (A4 G ss t).size.toNat).drop (b+1)).any (KM c (A4 G ss t) (A4 G ss q) a)=z at ih⊢;generalize KK c G[q].1 G[t].1=z4 at *;generalize A4 G ss t=X at *;generalize e1:decide (D=0)=z1;generalize e2:decide (D=1)=z2;generalize e3:decide (D = -1)=z3;rw[AB];simp only[AD]at ih qm⊢;cases z1 with
  |true=>simp[hlt,hw,hgt,hgq,hsq,w1,w2,w3,e1,E1,B0,AF,AR,AY,AQ,AL,AH]
  |false=>
   cases z2 with
   |true=>
    cases z4 with
    |true=>simp[hlt,hw,hgt,hgq,hsq,w1,w2,w3,e1,e2,qm,E1,B0,AF,AR,AY,AQ,AL,AH]
    |false=>cases z<;>(simp at ih;simp[hlt,hw,hgt,hgq,hsq,w1,w2,w3,e1,e2,qm,E1,B0,AF,AR,AY,AQ,AL,AH,ih])
   |false=>
    cases z3 with
    |true=>
     cases z4 with
     |true=>simp[hlt,hw,hgt,hgq,hsq,w1,w2,w3,e1,e2,e3,qm,E1,B0,AF,AR,AY,AQ,AL,AH]
     |false=>cases z<;>(simp at ih;simp[hlt,hw,hgt,hgq,hsq,w1,w2,w3,e1,e2,e3,qm,E1,B0,AF,AR,AY,AQ,AL,AH,ih])
    |false=>cases z<;>(simp at ih;simp[hlt,hw,hgt,hgq,hsq,w1,w2,w3,e1,e2,e3,E1,B0,AF,AR,AY,AQ,AL,AH,ih])
theorem ALI(hG:ss.length≤G.length)(ht:t+1=ss.length)(hq:q<t)(hs:ss.length≤100)(hf:∀g∈G,g.1<c.fams.length∧0≤g.2∧g.2≤4)(hp:0≤(A4 G ss q).place∧(A4 G ss q).place≤1000)(hx:0≤(A4 G ss t).place∧(A4 G ss t).place≤1000):∀(d a:Nat),a+d=(A4 G ss q).size.toNat→∃fr,BQ fr 1=some (true,.list false (G.map B0))∧BQ fr 2=some (true,.list false (ss.map AF))∧BQ fr 3=some (true,.ptr 0 3 0 0)∧BQ fr 7=some (true,i t)∧BQ fr 8=some (true,.ptr 0 8 1 0)∧BQ fr 9=some (true,i (A4 G ss t).size)∧BQ fr 10=some (true,i q) ∧
  ∀n m,d<m→A9 (AE Tryz.prog ann kn (n+600) 112) SR (ann 112 (BS SR)) m ⟨2,[(1,true,.list false (G.map B0)),(2,true,.list false (ss.map AF)),(3,true,.ptr 0 3 0 0),(7,true,i t),(8,true,.ptr 0 8 1 0),(9,true,i (A4 G ss t).size),(10,true,i q),(11,true,i a)],⟨[],[(3,0,.box (AD c)),(8,1,.box [i (A4 G ss t).row,i (A4 G ss t).place])]⟩⟩ =
   if ((List.range (A4 G ss q).size.toNat).drop a).any (fun a=>(List.range (A4 G ss t).size.toNat).any (KM c (A4 G ss t) (A4 G ss q) a))=true then some (.ret,⟨2,[(6,true,.bool false)],⟨[],[]⟩⟩) else some (.exit 2,⟨2,fr,⟨[],[(3,0,.box (AD c)),(8,1,.box [i (A4 G ss t).row,i (A4 G ss t).place])]⟩⟩)
 |0,a,hd=>by
  have hgq:q<G.length:=by omega
  have h1:=hf G[q] (List.getElem_mem hgq);have hge:(A4 G ss q).size=G[q].2:=by simp[A4,List.getD_eq_getElem?_getD,List.getElem?_eq_getElem hgq]
  have hb:(a:Int)=G[q].2:=by omega
  rw[List.drop_eq_nil_of_le (by rw[List.length_range];omega),hb];refine⟨?fr,?g1,?g2,?g3,?g4,?g5,?g6,?g7,fun n m hm=>?g9⟩;case g9=>
   obtain⟨m,rfl⟩:∃m',m=m'+1:=⟨m-1,by omega⟩
   rw[AB]
   simp[AD,hgq,B0]
   rfl
  all_goals simp
 |d+1,a,hd=>by
  have hgq:q<G.length:=by omega
  have hgt:t<G.length:=by omega
  have h2:=hf G[q] (List.getElem_mem hgq);have h3:=hf G[t] (List.getElem_mem hgt);have eq3:(A4 G ss q).size=G[q].2:=by simp[A4,List.getD_eq_getElem?_getD,List.getElem?_eq_getElem hgq]
  have hlt:(a:Int)<G[q].2:=by omega
  have hw:=BJ (k:=a) (by omega);obtain⟨f0,b1,b2,b3,b4,b5,b6,b7,b8,qi⟩:=ALH c G ss t q hG ht hq hs hf hp hx a (by omega) (A4 G ss t).size.toNat 0 (by omega);have hts:(A4 G ss t).size=G[t].2:=by simp[A4,List.getD_eq_getElem?_getD,List.getElem?_eq_getElem hgt]
  have qi:=fun n m=>qi n (m+100) (by omega);rw[List.drop_zero]at qi;obtain⟨fr,g1,g2,g3,g4,g5,g6,g7,ih⟩:=ALI hG ht hq hs hf hp hx d (a+1) (by omega);refine⟨fr,g1,g2,g3,g4,g5,g6,g7,fun n m hm=>?_⟩;obtain⟨m,rfl⟩:∃m',m=m'+1:=⟨m-1,by omega⟩;have ih:=ih n m (by omega);rw[List.drop_eq_getElem_cons (by rw[List.length_range];omega),List.any_cons,List.getElem_range];generalize ((List.range (A4 G ss q).size.toNat).drop (a+1)).any (fun a=>(List.range (A4 G ss t).size.toNat).any (KM c (A4 G ss t) (A4 G ss q) a))=z at ih⊢;generalize (List.range (A4 G ss t).size.toNat).any (KM c (A4 G ss t) (A4 G ss q) a)=z1 at *;generalize A4 G ss t=X at *;rw[AB];simp only[AD]at ih qi⊢;cases z1<;>cases z<;>(simp at ih qi;simp[hlt,hw,hgq,qi,b1,b2,b3,b4,b5,b6,b7,b8,B0,ih])
end
theorem AZW(c:A0)(G:List (Nat×Int))(ss:List (Int×Int))(t:Nat)(hG:ss.length≤G.length)(ht:t+1=ss.length)(hs:ss.length≤100)(hf:∀g∈G,g.1<c.fams.length∧0≤g.2∧g.2≤4)(hp:∀q,q<t→0≤(A4 G ss q).place∧(A4 G ss q).place≤1000)(hx:0≤(A4 G ss t).place∧(A4 G ss t).place≤1000):∀(d q:Nat),q+d=t→∃fr,
  ∀n m,d<m→A9 (AE Tryz.prog ann kn (n+800) 112) XV (ann 112 (BS XV)) m ⟨2,[(1,true,.list false (G.map B0)),(2,true,.list false (ss.map AF)),(3,true,.ptr 0 3 0 0),(7,true,i t),(8,true,.ptr 0 8 1 0),(9,true,i (A4 G ss t).size),(10,true,i q)],⟨[],[(3,0,.box (AD c)),(8,1,.box [i (A4 G ss t).row,i (A4 G ss t).place])]⟩⟩ =
   if ((List.range t).drop q).all (fun q=>RK c (A4 G ss t) (A4 G ss q))=true then some (.exit 0,⟨2,fr,⟨[],[(3,0,.box (AD c)),(8,1,.box [i (A4 G ss t).row,i (A4 G ss t).place])]⟩⟩) else some (.ret,⟨2,[(6,true,.bool false)],⟨[],[]⟩⟩)
 |0,q,hd=>by
  obtain rfl:q=t:=by omega
  rw[List.drop_eq_nil_of_le (by rw[List.length_range];omega)];refine⟨?fr,fun n m hm=>?g9⟩;case g9=>
   obtain⟨m,rfl⟩:∃m',m=m'+1:=⟨m-1,by omega⟩
   rw[AB]
   simp[AD]
   rfl
 |d+1,q,hd=>by
  have hq:q<t:=by omega
  have hgq:q<G.length:=by omega
  have hsq:q<ss.length:=by omega
  have hw:=BJ (k:=q) (by omega);have hlt:(q:Int)<(t:Int):=by omega
  have eq2:(A4 G ss q).row=ss[q].1:=by simp[A4,List.getD_eq_getElem?_getD,List.getElem?_eq_getElem hsq]
  obtain⟨f0,b1,b2,b3,b4,b5,b6,b7,qi⟩:=ALI c G ss t q hG ht hq hs hf (hp q hq) hx (A4 G ss q).size.toNat 0 (by omega);have qi:=fun n m=>qi n (m+100) (by
   have h2:=hf G[q] (List.getElem_mem hgq);have:(A4 G ss q).size=G[q].2:=by simp[A4,List.getD_eq_getElem?_getD,List.getElem?_eq_getElem hgq]
   omega)
  rw[List.drop_zero,←wA]at qi;obtain⟨fr,ih⟩:=AZW c G ss t hG ht hs hf hp hx d (q+1) (by omega);refine⟨fr,fun n m hm=>?_⟩;obtain⟨m,rfl⟩:∃m',m=m'+1:=⟨m-1,by omega⟩;have ih:=ih n m (by omega);rw[List.drop_eq_getElem_cons (by rw[List.length_range];omega),List.all_cons,List.getElem_range];have ef:RK c (A4 G ss t) (A4 G ss q)=(decide (ss[q].1≠(A4 G ss t).row)||!QO c (A4 G ss t) (A4 G ss q)):=by unfold RK;rw[eq2]
  rw[ef];generalize ((List.range t).drop (q+1)).all (fun q=>RK c (A4 G ss t) (A4 G ss q))=z at ih⊢;generalize QO c (A4 G ss t) (A4 G ss q)=z1 at *;generalize A4 G ss t=X at *;rw[AB];simp only[AD]at ih qi⊢;by_cases hr:ss[q].1=X.row
  ·have hr':decide (ss[q].1≠X.row)=false:=by simp[hr]
   rw[hr'];cases z1<;>cases z<;>(simp at ih qi;simp[hlt,hw,hgq,hsq,hr,qi,b1,b2,b3,b4,b5,b6,b7,B0,AF,ih])
  ·have hr':decide (ss[q].1≠X.row)=true:=by simp[hr]
   rw[hr'];cases z<;>(simp at ih;simp[hlt,hw,hgq,hsq,hr,B0,AF,ih])
def HO(c:A0)(G:List (Nat×Int))(ss:List (Int×Int))(t:Nat):Bool:=F2 c (A4 G ss t)&&(List.range t).all fun q=>RK c (A4 G ss t) (A4 G ss q)
theorem ALJ(n:Nat)(c:A0)(h1:0≤c.beach.rows∧c.beach.rows≤1000)(h2:0≤c.beach.places∧c.beach.places≤1000)(G:List (Nat×Int))(ss:List (Int×Int))(t:Nat)(hG:ss.length≤G.length)(ht:t+1=ss.length)(hs:ss.length≤100)(hf:∀g∈G,g.1<c.fams.length∧0≤g.2∧g.2≤4)(hp:∀q,q<t→0≤(A4 G ss q).place∧(A4 G ss q).place≤1000):AW Tryz.prog kn (AE Tryz.prog ann kn (n+1000)) 74 [.agg (AD c),.list false (G.map B0),.list false (ss.map AF)]=some (.bool (HO c G ss t)):=by
 rw[AP rfl,AO Tryz.func74 b74 rfl (by simp[AD,AH,AL,AF,AR,AY,AQ,B0])];have hgt:t<G.length:=by omega
 have hst:t<ss.length:=by omega
 have hf1:=hf G[t] (List.getElem_mem hgt);have e1:(A4 G ss t).size=G[t].2:=by simp[A4,List.getD_eq_getElem?_getD,List.getElem?_eq_getElem hgt]
 have e2:(A4 G ss t).row=ss[t].1:=by simp[A4,List.getD_eq_getElem?_getD,List.getElem?_eq_getElem hst]
 have e3:(A4 G ss t).place=ss[t].2:=by simp[A4,List.getD_eq_getElem?_getD,List.getElem?_eq_getElem hst]
 have hlen:(ss.length:Int)=(t:Int)+1:=by omega
 have w0:IntKind.i64.wrap ((t:Int)+1-1)=(t:Int):=by rw[AS (by omega) (by omega)];omega
 have hlt0:¬((t:Int)+1≤(t:Int)):=by omega
 have w00:IntKind.i64.wrap (t:Int)=(t:Int):=AS (by omega) (by omega);have w1:IntKind.i64.wrap (c.beach.rows-1)=c.beach.rows-1:=AS (by omega) (by omega);have w2:IntKind.i64.wrap (c.beach.places-G[t].2)=c.beach.places-G[t].2:=AS (by omega) (by omega);have qi:=fun n=>kIn n ss[t].1 0 (c.beach.rows-1);unfold HO;have ef:F2 c (A4 G ss t)=(FN ss[t].1 0 (c.beach.rows-1)&&(!decide (ss[t].2<0)&&!decide (c.beach.places-G[t].2<ss[t].2))):=by unfold F2;rw[e1,e2,e3];congr 1;unfold FN;by_cases x1:ss[t].2<0<;>by_cases x2:c.beach.places-G[t].2<ss[t].2<;>simp[x1,x2]<;>omega
 have hp1:Nat.beq 2 1=false:=rfl;by_cases hfit:F2 c (A4 G ss t)=true
 ·have hx:0≤(A4 G ss t).place∧(A4 G ss t).place≤1000:=by simp only[F2,Bool.and_eq_true,DS]at hfit;omega
  obtain⟨fr,q⟩:=AZW c G ss t hG ht hs hf hp hx t 0 (by omega);have q:=fun n m=>q n (m+101) (by omega);rw[List.drop_zero]at q;rw[hfit,Bool.true_and];rw[ef]at hfit;simp only[Bool.and_eq_true,Bool.not_eq_true',decide_eq_false_iff_not]at hfit;obtain⟨f1,f2,f3⟩:=hfit;rw[f1]at qi;rw[e1,e2,e3]at q;generalize (List.range t).all (fun q=>RK c (A4 G ss t) (A4 G ss q))=z at *;simp only[AD]at q⊢;cases z<;>(simp at q;simp[c74,AG,hlen,hgt,hst,hlt0,w0,w00,w1,w2,qi,f2,f3,B0,AF,BF,BR,BW,A8,D9,DY,E1,F9,hp1,q])
 ·have hfit:F2 c (A4 G ss t)=false:=by simpa using hfit
  rw[hfit,Bool.false_and];rw[ef]at hfit;generalize FN ss[t].1 0 (c.beach.rows-1)=z1 at *;generalize x2:decide (ss[t].2<0)=z2 at *;generalize x3:decide (c.beach.places-G[t].2<ss[t].2)=z3 at *;simp only[AD];cases z1<;>cases z2<;>cases z3<;>first|(exact absurd hfit (by decide))|simp[c74,AG,hlen,hgt,hst,hlt0,w0,w00,w1,w2,qi,x2,x3,B0,AF,BF,BR,BW,A8,D9,DY,E1,F9,hp1]
end Go.Proofs.Tryz.Op
namespace Go.Wind
open Go.Proofs.Tryz.Op
def NS(c:A0)(G:List (Nat×Int))(ss:List (Int×Int)):Bool:=decide (ss.length=G.length)&&(decide (DA G≤(F7 c:Int))&&(List.range ss.length).all (HO c G ss))
theorem RL(c:A0)(f:Nat→Sp):∀n,EK c [] ((List.range n).map f)=(List.range n).all fun t=>F2 c (f t)&&((List.range t).map f).all (GA c (f t))
 |0=>rfl
 |n+1=>by rw[List.range_succ,List.map_append,L9,RL c f n,List.all_append];simp[EK]
theorem cL{G:List (Nat×Int)}(hG:∀g∈G,1≤g.2∧g.2≤4){ss:List (Int×Int)}{t:Nat}(ht:t<G.length):1≤(A4 G ss t).size:=by simp only[A4,List.getD_eq_getElem?_getD,List.getElem?_eq_getElem ht,Option.getD_some];exact(hG _ (List.getElem_mem ht)).1
theorem iR{c:A0}{G:List (Nat×Int)}(hG:∀g∈G,1≤g.2∧g.2≤4){ss:List (Int×Int)}{t:Nat}(ht:t<G.length):HO c G ss t=(F2 c (A4 G ss t)&&((List.range t).map (A4 G ss)).all (GA c (A4 G ss t))):=by
 rw[← nY (cL hG ht) fun y hy=>by
  obtain⟨q,hq,rfl⟩:=List.mem_map.1 hy;exact cL hG (by have:=List.mem_range.1 hq; omega)]
 unfold HO iL RK;rw[List.all_map];rfl
theorem oD{G:List (Nat×Int)}{ss:List (Int×Int)}(_:ss.length≤G.length):∀{l:List Sp},l.length=ss.length→(∀j (h1:j<l.length),l[j]=A4 G ss j)→l=(List.range ss.length).map (A4 G ss):=fun {l} h1 h2=>by apply List.ext_getElem (by simp[h1]);intro j g1 g2;rw[h2 j g1];simp
theorem iS{c:A0}{G:List (Nat×Int)}(hG:∀g∈G,1≤g.2∧g.2≤4)(ss:List (Int×Int)):NS c G ss=(decide (ss.length=G.length)&&(decide (DA G≤(F7 c:Int))&&EK c [] ((List.range ss.length).map (A4 G ss)))):=by
 unfold NS;by_cases h:ss.length=G.length
 ·congr 2;rw[RL];have:∀l:List Nat,(∀t∈l,t<G.length)→l.all (HO c G ss)=l.all fun t=>F2 c (A4 G ss t)&&((List.range t).map (A4 G ss)).all (GA c (A4 G ss t)):=fun l hl=>by
   induction l with
   |nil=>rfl
   |cons t l ih=>rw[List.all_cons,List.all_cons,ih fun x hx=>hl x (by simp[hx]),iR hG (hl t (by simp))]
  exact this _ fun t ht=>by have:=List.mem_range.1 ht;omega
 ·simp[h]
theorem QQ{c:A0}(hc:D8 c)(out:List Int):∀(k:Nat),k≤c.fams.length→∀g∈B5 c.fams out k,g.1<c.fams.length∧1≤g.2∧g.2≤4
 |0,_,g,hg=>by cases hg
 |k+1,hk,g,hg=>by
  simp only[B5,List.mem_append]at hg;rcases hg with hg|hg
  ·exact QQ hc out k (by omega) g hg
  ·split at hg
   ·cases hg
   ·rw[List.mem_singleton]at hg;subst hg;have hk':k<c.fams.length:=by omega
    have e:c.fams.getD k ⟨0,0,false,false⟩=c.fams[k]:=by rw[List.getD_eq_getElem?_getD,List.getElem?_eq_getElem hk'];rfl
    have:=hc.fo _ (List.getElem_mem hk');simp only[e];exact⟨hk',this.1⟩
theorem QD{c:A0}:∀(k:Nat),k≤c.fams.length→DA (B5 c.fams [] k)=((c.fams.take k).map NL.size).sum
 |0,_=>rfl
 |k+1,hk=>by
  have hk':k<c.fams.length:=by omega
  have e:c.fams.getD k ⟨0,0,false,false⟩=c.fams[k]:=by rw[List.getD_eq_getElem?_getD,List.getElem?_eq_getElem hk'];rfl
  have ih:=QD (c:=c) k (by omega);unfold DA at ih⊢;simp only[B5,List.not_mem_nil,decide_false,Bool.false_eq_true,if_false,e,List.map_append,List.sum_append,ih];rw[List.take_succ_eq_append_getElem hk',List.map_append,List.sum_append];rfl
theorem eY{c:A0}(hc:D8 c)(ss:List (Int×Int)):NS c (B6 c []) ss=EP c ss:=by
 have hgl:(B6 c []).length=c.fams.length:=FC c;have hgm:∀g∈B6 c [],1≤g.2∧g.2≤4:=fun g hg=>(QQ hc [] _ (Nat.le_refl _) g hg).2;rw[iS hgm,hgl];unfold EP;by_cases h:ss.length=c.fams.length
 ·rw[decide_eq_true h,Bool.true_and,Bool.true_and];have hp:DA (B6 c [])=EO (BA c ss):=by rw[show EO (BA c ss)=(c.fams.map NL.size).sum from RI h];have:=QD (c:=c) c.fams.length (Nat.le_refl _);rw[List.take_length]at this;exact this
  have hl:BA c ss=(List.range ss.length).map (A4 (B6 c []) ss):=by
   refine oD (by omega) (by rw[show(BA c ss).length=c.fams.length from D0 h,h]) fun j h1=>?_;have hj:j<c.fams.length:=by rwa [show(BA c ss).length=c.fams.length from D0 h]at h1
   have e:=K9 (k:=0) (fs:=c.fams) (ss:=ss) j hj (by omega) h1;rw[Nat.zero_add]at e;have hg:=cJ hj (by rw[hgl];exact hj);unfold A4;rw[List.getD_eq_getElem?_getD,List.getD_eq_getElem?_getD,List.getElem?_eq_getElem (by rw[hgl];exact hj),List.getElem?_eq_getElem (by omega:j<ss.length)];simp only[Option.getD_some,hg];exact e
  unfold KL;rw[hp,←hl,Bool.and_comm]
 ·simp[h]
def XF(H:List (List FW))(r p:Nat):Int:=((H.getD r []).getD p ⟨0,0,0⟩).good
def NT(H:List (List FW))(r p n:Nat):Int:=H0 (fun q=>XF H r (p+q)) n
def F8(H:List (List FW))(good:Int)(r p n:Nat):Bool:=(List.range n).all fun q=>decide (good≤XF H r (p+q))
end Go.Wind
namespace Go.Proofs.Tryz.Op
def I7{α:Type}(l:List α):Bool:=!decide ((7:Int)<(l.length:Int))
def XG(c:A0):Bool:=(UA c.beach&&(I7 c.plan&&(I7 c.chairs&&!decide ((5:Int)<(c.fams.length:Int)))))&&(c.plan.all I7&&c.chairs.all I7)
theorem wB{α:Type}{l:List α}:I7 l=true↔l.length≤7:=by simp only[I7,Bool.not_eq_true',decide_eq_false_iff_not];omega
theorem QR{c:A0}(h:XG c=true):UA c.beach=true∧c.plan.length≤7∧c.chairs.length≤7∧c.fams.length≤5∧(∀l∈c.plan,l.length≤7)∧∀l∈c.chairs,l.length≤7:=by simp only[XG,Bool.and_eq_true,wB,List.all_eq_true,Bool.not_eq_true',decide_eq_false_iff_not]at h;exact⟨h.1.1,h.1.2.1,h.1.2.2.1,by omega,h.2.1,h.2.2⟩
theorem AZX(c:A0)(hl:c.plan.length≤100):∀(d k:Nat),k+d=c.plan.length→∃fr,BQ fr 1=some (true,.ptr 0 1 0 0) ∧
  ∀n m,d<m→A9 (AE Tryz.prog ann kn (n+100) 55) XW (ann 55 (BS XW)) m ⟨1,[(1,true,.ptr 0 1 0 0),(3,true,i k)],⟨[],[(1,0,.box (AD c))]⟩⟩ =
   if (c.plan.drop k).all I7=true then some (.exit 0,⟨1,fr,⟨[],[(1,0,.box (AD c))]⟩⟩) else some (.ret,⟨1,[(2,true,.bool false)],⟨[],[]⟩⟩)
 |0,k,hk=>by
  have:k=c.plan.length:=by omega
  subst this;rw[List.drop_length];refine⟨?fr,?g1,fun n m hm=>?g2⟩;case g2=>
   obtain⟨m,rfl⟩:∃m',m=m'+1:=⟨m-1,by omega⟩
   rw[AB]
   simp[AD]
   rfl
  case g1=>simp
 |d+1,k,hk=>by
  have hk':k<c.plan.length:=by omega
  have hw:=BJ (k:=k) (by omega);obtain⟨fr,e1,ih⟩:=AZX c hl d (k+1) (by omega);rw[List.drop_eq_getElem_cons hk',List.all_cons];refine⟨fr,e1,fun n m hm=>?_⟩;obtain⟨m,rfl⟩:∃m',m=m'+1:=⟨m-1,by omega⟩;have ih:=ih n m (by omega);have es:I7 c.plan[k]=!decide ((7:Int)<(c.plan[k].length:Int)):=rfl;rw[es];generalize e1:decide ((7:Int)<(c.plan[k].length:Int))=z1;generalize (c.plan.drop (k+1)).all I7=z at ih⊢;rw[AB];simp only[AD]at ih⊢;cases z1<;>cases z<;>(simp at ih;simp[AL,hk',hw,e1,ih])
theorem AZY(c:A0)(hl:c.chairs.length≤100):∀(d k:Nat),k+d=c.chairs.length→∃fr,BQ fr 1=some (true,.ptr 0 1 0 0) ∧
  ∀n m,d<m→A9 (AE Tryz.prog ann kn (n+100) 55) XX (ann 55 (BS XX)) m ⟨1,[(1,true,.ptr 0 1 0 0),(4,true,i k)],⟨[],[(1,0,.box (AD c))]⟩⟩ =
   if (c.chairs.drop k).all I7=true then some (.exit 2,⟨1,fr,⟨[],[(1,0,.box (AD c))]⟩⟩) else some (.ret,⟨1,[(2,true,.bool false)],⟨[],[]⟩⟩)
 |0,k,hk=>by
  have:k=c.chairs.length:=by omega
  subst this;rw[List.drop_length];refine⟨?fr,?g1,fun n m hm=>?g2⟩;case g2=>
   obtain⟨m,rfl⟩:∃m',m=m'+1:=⟨m-1,by omega⟩
   rw[AB]
   simp[AD]
   rfl
  case g1=>simp
 |d+1,k,hk=>by
  have hk':k<c.chairs.length:=by omega
  have hw:=BJ (k:=k) (by omega);obtain⟨fr,e1,ih⟩:=AZY c hl d (k+1) (by omega);rw[List.drop_eq_getElem_cons hk',List.all_cons];refine⟨fr,e1,fun n m hm=>?_⟩;obtain⟨m,rfl⟩:∃m',m=m'+1:=⟨m-1,by omega⟩;have ih:=ih n m (by omega);have es:I7 c.chairs[k]=!decide ((7:Int)<(c.chairs[k].length:Int)):=rfl;rw[es];generalize e1:decide ((7:Int)<(c.chairs[k].length:Int))=z1;generalize (c.chairs.drop (k+1)).all I7=z at ih⊢;rw[AB];simp only[AD]at ih⊢;cases z1<;>cases z<;>(simp at ih;simp[AR,hk',hw,e1,ih])
theorem AOX(n:Nat)(c:A0):AW Tryz.prog kn (AE Tryz.prog ann kn (n+1400)) 18 [.agg (AD c)]=some (.bool (XG c)):=by
 rw[AP rfl,AO Tryz.func18 b18 rfl (by simp[AD,AH,AL,AF,AR,AY,AQ])];have qT:=fun n=>A76 n c.beach;unfold XG;have es:I7 c.plan=!decide ((7:Int)<(c.plan.length:Int)):=rfl;have et:I7 c.chairs=!decide ((7:Int)<(c.chairs.length:Int)):=rfl;rw[es,et];generalize e1:decide ((7:Int)<(c.plan.length:Int))=z1;generalize e2:decide ((7:Int)<(c.chairs.length:Int))=z2;generalize e3:decide ((5:Int)<(c.fams.length:Int))=z3;generalize UA c.beach=z4 at *;simp only[AC]at qT;by_cases h:z4=true∧z1=false∧z2=false∧z3=false
 ·obtain⟨rfl,rfl,rfl,rfl⟩:=h;have h1:=of_decide_eq_false e1;have h2:=of_decide_eq_false e2;obtain⟨f1,g1,q1⟩:=AZX c (by omega) c.plan.length 0 (by omega);obtain⟨f2,g2,q2⟩:=AZY c (by omega) c.chairs.length 0 (by omega);have q1:=fun n m=>q1 n (m+100) (by omega);have q2:=fun n m=>q2 n (m+100) (by omega);rw[List.drop_zero]at q1 q2;generalize c.plan.all I7=y1 at *;generalize c.chairs.all I7=y2 at *;simp only[AD]at q1 q2⊢;cases y1<;>cases y2<;>(simp at q1 q2;simp[c18,AG,qT,e1,e2,e3,q1,q2,g1,g2,AR,AY,AQ,AF,AL,AH])
 ·simp only[AD]at⊢;cases z4<;>cases z1<;>cases z2<;>cases z3<;>first|exact absurd ⟨rfl,rfl,rfl,rfl⟩ h|simp[c18,AG,qT,e1,e2,e3,AR,AY,AQ,AF,AL,AH]
theorem AZZ{k:Nat}(hk:k≤100000)(q g n:Nat):B4 Tryz.prog 22 k [[.vec 0 q g n]]=true:=by rw[CA (by simp) (by simp)];simp[maxLen];omega
theorem AGK(l k:Nat)(o:Option (Nat×AX))(ls:List (List Int)):(ls.map AL).map (List.map (BD l k o 3))=ls.map AL:=by rw[List.map_map];exact List.map_congr_left fun x _=>rfl
theorem AZ0(ls:List (List Int)):(ls.map AL).map (List.map dY)=ls.map AL:=by rw[List.map_map];exact List.map_congr_left fun x _=>rfl
theorem QS(k γ:Nat)(h:List V)(t:List (List V)):pv k γ (h::t)=.vec 0 k γ (t.length+1):=rfl
theorem iT:sl []=.nil:=rfl
theorem oE(e:List V)(es:List (List V)):sl (e::es)=.list false (e::es):=rfl
theorem PE(l k:Nat)(o:Option (Nat×AX))(f:Nat)(es:List (List V)):BD l k o f (sl es)=sl es:=by cases f<;>cases es<;>rfl
theorem AOY(ls:List (List Int))(h1:ls.length≤100)(h2:∀l∈ls,l.length≤100):∀(d k c γ:Nat),k+d=ls.length→∃fr c' γ',fr=[(8,true,V.bool false),(7,true,i ls.length),(6,true,GQ ls),(5,true,i ls.length),(0,true,GQ ls),(3,true,pv 18 γ' (ls.map AL)),(4,true,i ls.length)]∧∀n m,d<m→A9 (AE Tryz.prog ann kn (n+200) 20) XY (ann 20 (BS XY)) m ⟨c,[(0,true,GQ ls),(3,true,pv 18 γ ((ls.take k).map AL)),(4,true,i k)],⟨[],pl 18 γ 22 ((ls.take k).map AL)⟩⟩ =
  some (.exit 0,⟨c',fr,⟨[],pl 18 γ' 22 (ls.map AL)⟩⟩)
 |0,k,c,γ,hk=>by
  have:k=ls.length:=by omega
  subst this;rw[List.take_length];refine⟨_,c,γ,rfl,fun n m hm=>?_⟩;obtain⟨m,rfl⟩:∃m',m=m'+1:=⟨m-1,by omega⟩;rw[AB];simp
 |d+1,k,c,γ,hk=>by
  have hk':k<ls.length:=by omega
  have hw:=BJ (k:=k) (by omega);have h3:=h2 _ (List.getElem_mem hk');have hst:(ls.take (k+1)).map AL=(ls.take k).map AL++[AL ls[k]]:=by rw[List.take_succ_eq_append_getElem hk',List.map_append];rfl
  have hRl:((ls.take k).map AL).length=k:=by rw[List.length_map,List.length_take];omega
  have hto:=fun o=>AGK 0 16 o (ls.take k);have hR1:∀e∈(ls.take k).map AL,e.length=1:=fun e he=>by obtain⟨l,_,rfl⟩:=List.mem_map.1 he;rfl
  have hwk:=AZ0 (ls.take k);have ha:=fun q g n=>AZZ (k:=((ls.take k).map AL).length) (by omega) q g n;have hai:=A72 (k:=0) (l:=ls[k]) (by omega);generalize hLk:ls[k]=L at *;cases L with
  |nil=>
   obtain⟨fr,c',γ',e1,ih⟩:=AOY ls h1 h2 d (k+1) (c+1+1) (c+1) (by omega)
   refine⟨fr,c',γ',e1,fun n m hm=>?_⟩
   obtain⟨m,rfl⟩:∃m',m=m'+1:=⟨m-1,by omega⟩
   have ih:=ih n m (by omega)
   rw[hst]at ih
   generalize ls.map AL=fin at *
   generalize (ls.take k).map AL=R at *
   rw[AB]
   simp[AL]at hai
   cases R with
   |nil=>simp[AL,li,QS]at ih ha;simp[show c+1+1=c+2 from rfl,hk',hw,hLk,AL,AH,ha,hai,ih,BF,E1,F9,EQ,BR,BW,A8,D9,DY]
   |cons r R=>
    have hR2:=hR1 r (by simp)
    have hR3:=eq_true (fun e he=>hR1 e (List.mem_cons_of_mem r he):∀e∈R,e.length=1)
    simp[AL,li,QS]at ih ha hto hwk
    simp[show c+1+1=c+2 from rfl,hk',hw,hLk,AL,AH,ha,hai,ih,hto,hwk,hR2,hR3,PE,QS,BF,E1,F9,EQ,BR,BW,A8,D9,DY]
  |cons x L=>
   obtain⟨fr,c',γ',e1,ih⟩:=AOY ls h1 h2 d (k+1) (c+1+1) (c+1) (by omega)
   refine⟨fr,c',γ',e1,fun n m hm=>?_⟩
   obtain⟨m,rfl⟩:∃m',m=m'+1:=⟨m-1,by omega⟩
   have ih:=ih n m (by omega)
   rw[hst]at ih
   generalize ls.map AL=fin at *
   generalize (ls.take k).map AL=R at *
   rw[AB]
   simp[AL,AH]at hai
   cases R with
   |nil=>simp[AL,AH,li,QS]at ih ha;simp[show c+1+1=c+2 from rfl,hk',hw,hLk,AL,AH,ha,hai,ih,BF,E1,F9,EQ,BR,BW,A8,D9,DY]
   |cons r R=>
    have hR2:=hR1 r (by simp)
    have hR3:=eq_true (fun e he=>hR1 e (List.mem_cons_of_mem r he):∀e∈R,e.length=1)
    simp[AL,AH,li,QS]at ih ha hto hwk
    simp[show c+1+1=c+2 from rfl,hk',hw,hLk,AL,AH,ha,hai,ih,hto,hwk,hR2,hR3,PE,QS,BF,E1,F9,EQ,BR,BW,A8,D9,DY]
theorem AGL(n:Nat)(ls:List (List Int))(h1:ls.length≤100)(h2:∀l∈ls,l.length≤100):AW Tryz.prog kn (AE Tryz.prog ann kn (n+400)) 69 [GQ ls]=some (sl (ls.map AL)):=by rw[AP rfl,AO Tryz.func69 b69 rfl (by simp[AH,AL])];obtain⟨fr,c',γ',e1,q⟩:=AOY ls h1 h2 ls.length 0 0 0 (by omega);have q:=fun n m=>q n (m+200) (by omega);simp at q e1;simp[c69,AG,q,e1,AL,AH]
theorem AGM(o:Option (Nat×AX))(ss:List (Int×Int)):(ss.map AF).map (List.map (BD 0 16 o 3))=ss.map AF:=by rw[List.map_map];exact List.map_congr_left fun x _=>rfl
theorem AZ1(ss:List (Int×Int)):(ss.map AF).map (List.map dY)=ss.map AF:=by rw[List.map_map];exact List.map_congr_left fun x _=>rfl
theorem ALK(l k a b c n:Nat):BD l k none 3 (.vec a b c n)=.vec a b c n:=rfl
theorem wkI(n:Int):dY (i n)=i n:=rfl
theorem AZ2(ss:List (Int×Int))(h1:ss.length≤100):∀(d k c γ:Nat),k+d=ss.length→∃fr c' γ',fr=[(8,true,V.bool false),(7,true,i ss.length),(6,true,.list false (ss.map AF)),(5,true,i ss.length),(0,true,.list false (ss.map AF)),(3,true,pv 18 γ' (ss.map AF)),(4,true,i ss.length)]∧∀n m,d<m→A9 (AE Tryz.prog ann kn (n+200) 20) XZ (ann 20 (BS XZ)) m ⟨c,[(0,true,.list false (ss.map AF)),(3,true,pv 18 γ ((ss.take k).map AF)),(4,true,i k)],⟨[],pl 18 γ 86 ((ss.take k).map AF)⟩⟩ =
  some (.exit 0,⟨c',fr,⟨[],pl 18 γ' 86 (ss.map AF)⟩⟩)
 |0,k,c,γ,hk=>by
  have:k=ss.length:=by omega
  subst this;rw[List.take_length];refine⟨_,c,γ,rfl,fun n m hm=>?_⟩;obtain⟨m,rfl⟩:∃m',m=m'+1:=⟨m-1,by omega⟩;rw[AB];simp
 |d+1,k,c,γ,hk=>by
  have hk':k<ss.length:=by omega
  have hw:=BJ (k:=k) (by omega);have hst:(ss.take (k+1)).map AF=(ss.take k).map AF++[AF ss[k]]:=by rw[List.take_succ_eq_append_getElem hk',List.map_append];rfl
  have hRl:((ss.take k).map AF).length=k:=by rw[List.length_map,List.length_take];omega
  have hR1:∀e∈(ss.take k).map AF,e.length=2:=fun e he=>by obtain⟨l,_,rfl⟩:=List.mem_map.1 he;rfl
  have hto:=AGM none (ss.take k);have hwk:=AZ1 (ss.take k);have happ:=A8K (k:=((ss.take k).map AF).length) (x:=ss[k]) (by omega);have q:=fun n=>AFI n ss[k];obtain⟨fr,c',γ',e1,ih⟩:=AZ2 ss h1 d (k+1) (c+1) c (by omega);refine⟨fr,c',γ',e1,fun n m hm=>?_⟩;obtain⟨m,rfl⟩:∃m',m=m'+1:=⟨m-1,by omega⟩;have ih:=ih n m (by omega);rw[hst]at ih;generalize (ss.take k).map AF=R at *;rw[AB];simp[AF]at q;cases R with
  |nil=>simp[AF,QS]at ih happ;simp[-List.map_map,hk',hw,AF,QS,q,happ,ih,ALK,wkI,BF,E1,F9,EQ,BR,BW,A8,D9,DY]
  |cons r R=>
   have hR2:=hR1 r (by simp)
   have hR3:=eq_true (fun e he=>hR1 e (List.mem_cons_of_mem r he):∀e∈R,e.length=2)
   simp[AF,QS,-List.map_map]at ih happ hto hwk
   simp[-List.map_map,hk',hw,AF,QS,q,happ,ih,hR2,hR3,ALK,wkI,hto,hwk,BF,E1,F9,EQ,BR,BW,A8,D9,DY]
theorem AGN(n:Nat)(ss:List (Int×Int))(h1:ss.length≤100):AW Tryz.prog kn (AE Tryz.prog ann kn (n+400)) 22 [.list false (ss.map AF)]=some (sl (ss.map AF)):=by
 rw[AP rfl,AO Tryz.func22 b22 rfl (by simp[AF])];obtain⟨fr,c',γ',e1,q⟩:=AZ2 ss h1 ss.length 0 0 0 (by omega);have q:=fun n m=>q n (m+200) (by omega);have hcl:∀e∈ss.map AF,∀v∈e,AK 8 v=true:=fun e he v hv=>by obtain⟨l,_,rfl⟩:=List.mem_map.1 he;simp only[AF,List.mem_cons,List.not_mem_nil,or_false]at hv;rcases hv with rfl|rfl<;>rfl
 generalize ss.map AF=R at *;simp at q e1;simp[c22,AG,q,e1];exact hcl
theorem AZ3{k:Nat}{g:Nat×Int}(h:k≤1000):B4 Tryz.prog 135 k [[i (g.1:Int),i g.2]]=true:=by rw[CA (by simp) (by simp)];simp[maxLen];omega
theorem wC{x N j:Nat}:((j:Int)∈II x N)↔j<N∧x.testBit j=true:=by
 unfold II;rw[List.mem_map];constructor
 ·rintro ⟨i,hi,e⟩;rw[List.mem_filter,List.mem_range]at hi;have:i=j:=by omega
  subst this;exact hi
 ·intro h;exact⟨j,by rw[List.mem_filter,List.mem_range];exact h,rfl⟩
theorem AAC(x j:Nat):decide ((((x / 2 ^ j:Nat):Int).tmod 2)=0)=!x.testBit j:=by rw[←AIJ];have h:=Int.tmod_eq_emod_of_nonneg (a:=((x / 2 ^ j:Nat):Int)) (b:=2) (Int.natCast_nonneg _);rw[h];rcases Int.emod_two_eq ((x / 2 ^ j:Nat):Int)with h|h<;>rw[h]<;>rfl
def IB(c:A0)(x:Nat):List (Nat×Int):=B6 c (II x c.fams.length)
theorem AOZ(c:A0)(hl:c.fams.length≤30)(x:Nat):∀(d k g γ:Nat),k+d=c.fams.length→0<g→∃g' γ' fr,BQ fr 5=some (true,pv 30 γ' ((IB c x).map B0)) ∧
  ∀n m,d<m→A9 (AE Tryz.prog ann kn (n+100) 32) X0 (ann 32 (BS X0)) m ⟨g,[(1,true,i x),(2,true,.ptr 0 2 0 0),(5,true,pv 30 γ ((B5 c.fams (II x c.fams.length) k).map B0)),(6,true,i k)],⟨[],(2,0,.box (AD c))::pl 30 γ 135 ((B5 c.fams (II x c.fams.length) k).map B0)⟩⟩ =
   some (.exit 0,⟨g',fr,⟨[],(2,0,.box (AD c))::pl 30 γ' 135 ((IB c x).map B0)⟩⟩)
 |0,k,g,γ,hk,hg=>by
  obtain rfl:k=c.fams.length:=by omega
  have e:B5 c.fams (II x c.fams.length) c.fams.length=IB c x:=rfl;rw[e];generalize IB c x=R;refine⟨g,γ,?fr,?g1,fun n m hm=>?g2⟩;case g2=>
   obtain⟨m,rfl⟩:∃m',m=m'+1:=⟨m-1,by omega⟩
   rw[AB]
   simp[AD]
   rfl
  case g1=>simp
 |d+1,k,g,γ,hk,hg=>by
  have hk':k<c.fams.length:=by omega
  have hw:=BJ (k:=k) (by omega);have hgl:=NP c.fams (II x c.fams.length) k;have hf:c.fams.getD k ⟨0,0,false,false⟩=c.fams[k]:=by rw[List.getD_eq_getElem?_getD,List.getElem?_eq_getElem hk'];rfl
  have hst:B5 c.fams (II x c.fams.length) (k+1)=B5 c.fams (II x c.fams.length) k++(if decide ((k:Int)∈II x c.fams.length)=true then[] else[(k,c.fams[k].size)]):=by rw[←hf];rfl
  have hin:decide ((k:Int)∈II x c.fams.length)=x.testBit k:=by rw[Bool.eq_iff_iff,decide_eq_true_eq,wC];exact⟨fun h=>h.2,fun h=>⟨hk',h⟩⟩
  have happ:=AZ3 (k:=(B5 c.fams (II x c.fams.length) k).length) (g:=(k,c.fams[k].size)) (by omega);have e1:=AT9 (x:=x) (j:=k) (by omega);have e2:=yY (p:=k) (by omega);have hb:=AAC x k;rw[hin]at hst;have hp1:Nat.beq 2 1=false:=rfl;generalize ((x / 2 ^ k:Nat):Int)=X at e1 hb;cases hbit:x.testBit k with
  |true=>
   rw[hbit]at hb hst
   rw[if_pos rfl,List.append_nil]at hst
   obtain⟨g',γ',fr,q1,ih⟩:=AOZ c hl x d (k+1) g γ (by omega) hg
   refine⟨g',γ',fr,q1,fun n m hm=>?_⟩
   obtain⟨m,rfl⟩:∃m',m=m'+1:=⟨m-1,by omega⟩
   have ih:=ih n m (by omega)
   rw[hst]at ih
   generalize B5 c.fams (II x c.fams.length) k=R at *
   rw[AB]
   simp only[AD]at ih⊢
   simp at hb
   cases R<;>(simp at ih;simp[hk',hw,rT,e1,e2,-T9,hb,ih])
  |false=>
   rw[hbit]at hb hst
   rw[if_neg (by decide)]at hst
   obtain⟨g',γ',fr,q1,ih⟩:=AOZ c hl x d (k+1) (g+1) g (by omega) (by omega)
   refine⟨g',γ',fr,q1,fun n m hm=>?_⟩
   obtain⟨m,rfl⟩:∃m',m=m'+1:=⟨m-1,by omega⟩
   have ih:=ih n m (by omega)
   rw[hst]at ih
   generalize B5 c.fams (II x c.fams.length) k=R at *
   rw[AB]
   simp only[AD]at ih⊢
   simp at hb
   cases R with
   |nil=>simp[B0,QS]at ih happ;simp[hk',hw,rT,e1,e2,-T9,hb,happ,AQ,B0,QS,hp1,ih,BF,E1,F9,EQ,BR,BW,A8,D9,DY]
   |cons r R=>simp[B0,QS]at ih happ;simp[hk',hw,rT,e1,e2,-T9,hb,happ,AQ,B0,QS,hp1,ih,BF,E1,F9,EQ,BR,BW,A8,D9,DY]
theorem AAD(n:Nat)(c:A0)(hl:c.fams.length≤30)(x:Nat):AW Tryz.prog kn (AE Tryz.prog ann kn (n+200)) 26 [.agg (AD c),i x]=some (sl ((IB c x).map B0)):=by
 rw[AP rfl,AO Tryz.func26 b26 rfl (by simp[AD,AH,AL,AF,AR,AY,AQ])];obtain⟨g',γ',fr,e1,q⟩:=AOZ c hl x c.fams.length 0 1 0 (by omega) (by omega);have q:=fun n m=>q n (m+100) (by omega);have e0:B5 c.fams (II x c.fams.length) 0=[]:=rfl;rw[e0]at q;have hcl:∀e∈(IB c x).map B0,∀v∈e,AK 8 v=true:=fun e he v hv=>by obtain⟨l,_,rfl⟩:=List.mem_map.1 he;simp only[B0,List.mem_cons,List.not_mem_nil,or_false]at hv;rcases hv with rfl|rfl<;>rfl
 generalize (IB c x).map B0=R at *;simp only[AD]at q⊢;simp at q e1;simp[c26,AG,q,e1];exact hcl
theorem UI{G:List (Nat×Int)}{ss:List (Int×Int)}{j q:Nat}(h:q<j):A4 G (ss.take j) q=A4 G ss q:=by unfold A4;rw[List.getD_eq_getElem?_getD,List.getD_eq_getElem?_getD,List.getD_eq_getElem?_getD,List.getElem?_take_of_lt h]
theorem oF{c:A0}{G:List (Nat×Int)}{ss:List (Int×Int)}{t:Nat}:HO c G (ss.take (t+1)) t=HO c G ss t:=by
 unfold HO;rw[UI (by omega)];congr 1;have:∀l:List Nat,(∀q∈l,q<t)→l.all (fun q=>RK c (A4 G ss t) (A4 G (ss.take (t+1)) q))=l.all fun q=>RK c (A4 G ss t) (A4 G ss q):=fun l hl=>by
  induction l with
  |nil=>rfl
  |cons x l ih=>rw[List.all_cons,List.all_cons,ih fun y hy=>hl y (by simp[hy]),UI (by have:=hl x (by simp);omega)]
 exact this _ fun q hq=>List.mem_range.1 hq
theorem iU{s:St}(l:List (Int×Int)){j:Nat}(hj:j≤l.length):B8 Tryz.prog s 24 (.list false (l.map AF)) none (some (i j)) none=some (.list false ((l.map AF).take j)):=by have:=aS (P:=Tryz.prog) (s:=s) (T:=24) (e:=59) (es:=l.map AF) (h:=(j:Int)) (b:=false) (by kernel_rfl) (by simp) (by omega) (by rw[List.length_map];omega);simpa using this
theorem XH{P:Program}{s:St}{r:Operand→Option V}(T:TypeId)(x h:Operand):IL P (eI (.slice T x none (some h) none)) s r=(r x).bind fun a=>(r h).bind fun c=>B8 P s T a none (some c) none:=by show((r x).bind fun a=>(some none).bind fun l=>((r h).map some).bind fun h=>(some none).bind fun m=>B8 P s T a l h m)=_;cases r x<;>cases r h<;>rfl
theorem AZ4(c:A0)(h1:0≤c.beach.rows∧c.beach.rows≤1000)(h2:0≤c.beach.places∧c.beach.places≤1000)(G:List (Nat×Int))(ss:List (Int×Int))(hG:ss.length=G.length)(hs:ss.length≤100)(hf:∀g∈G,g.1<c.fams.length∧0≤g.2∧g.2≤4):∀(d k:Nat),k+d=ss.length→(∀q,q<k→HO c G ss q=true)→∃fr,
  ∀n m,d<m→A9 (AE Tryz.prog ann kn (n+1200) 34) X3 (ann 34 (BS X3)) m ⟨1,[(1,true,.list false (G.map B0)),(2,true,.list false (ss.map AF)),(3,true,.ptr 0 3 0 0),(7,true,i k)],⟨[],[(3,0,.box (AD c))]⟩⟩ =
   if ((List.range ss.length).drop k).all (HO c G ss)=true then some (.exit 0,⟨1,fr,⟨[],[(3,0,.box (AD c))]⟩⟩) else some (.ret,⟨1,[(6,true,.bool false)],⟨[],[]⟩⟩)
 |0,k,hd,_=>by
  obtain rfl:k=ss.length:=by omega
  rw[List.drop_eq_nil_of_le (by rw[List.length_range];omega)];refine⟨?fr,fun n m hm=>?g9⟩;case g9=>
   obtain⟨m,rfl⟩:∃m',m=m'+1:=⟨m-1,by omega⟩
   rw[AB]
   simp[AD]
   rfl
 |d+1,k,hd,hok=>by
  have hk:k<ss.length:=by omega
  have hw:=BJ (k:=k) (by omega);have qsl:=fun s=>iU (s:=s) ss (show k+1≤ss.length by omega);have hlt:(ss.take (k+1)).length=k+1:=by rw[List.length_take];omega
  have hp:∀q,q<k→0≤(A4 G (ss.take (k+1)) q).place∧(A4 G (ss.take (k+1)) q).place≤1000:=fun q hq=>by
   rw[UI (by omega)];have h:=hok q hq;simp only[HO,F2,Bool.and_eq_true,DS]at h;have hg:q<G.length:=by omega
   have hsz:0≤(A4 G ss q).size:=by simp only[A4,List.getD_eq_getElem?_getD,List.getElem?_eq_getElem hg,Option.getD_some];exact(hf _ (List.getElem_mem hg)).2.1
   omega
  have qS:=fun n=>ALJ n c h1 h2 G (ss.take (k+1)) k (by rw[hlt];omega) (by rw[hlt]) (by rw[hlt];omega) hf hp;rw[oF]at qS;rw[List.drop_eq_getElem_cons (by rw[List.length_range];omega),List.all_cons,List.getElem_range];cases hz:HO c G ss k with
  |false=>
   rw[hz]at qS
   refine⟨[],fun n m hm=>?_⟩
   obtain⟨m,rfl⟩:∃m',m=m'+1:=⟨m-1,by omega⟩
   rw[AB]
   simp only[AD]at qS⊢
   simp[←List.map_take]at qsl
   simp[←List.map_take,hk,hw,qsl,qS,AF,B0,AR,AY,AQ,XH,MA,EV]
  |true=>
   rw[hz]at qS
   obtain⟨fr,ih⟩:=AZ4 c h1 h2 G ss hG hs hf d (k+1) (by omega) (fun q hq=>by
    by_cases e:q=k
    ·rw[e];exact hz
    ·exact hok q (by omega))
   refine⟨fr,fun n m hm=>?_⟩
   obtain⟨m,rfl⟩:∃m',m=m'+1:=⟨m-1,by omega⟩
   have ih:=ih n m (by omega)
   generalize ((List.range ss.length).drop (k+1)).all (HO c G ss)=z at ih⊢
   rw[AB]
   simp only[AD]at qS ih⊢
   simp[←List.map_take]at qsl
   cases z<;>(simp at ih;simp[←List.map_take,hk,hw,qsl,qS,AF,B0,AR,AY,AQ,XH,MA,EV,ih])
theorem oG(n:Nat)(c:A0)(h1:0≤c.beach.rows∧c.beach.rows≤1000)(h2:0≤c.beach.places∧c.beach.places≤1000)(hch:c.chairs.length≤100)(hcr:∀l∈c.chairs,l.length≤100)(G:List (Nat×Int))(hG:G.length≤100)(ss:List (Int×Int))(hf:∀g∈G,g.1<c.fams.length∧0≤g.2∧g.2≤4):AW Tryz.prog kn (AE Tryz.prog ann kn (n+1600)) 25 [.agg (AD c),.list false (G.map B0),.list false (ss.map AF)]=some (.bool (NS c G ss)):=by
 rw[AP rfl,AO Tryz.func25 b25 rfl (by simp[AD,AH,AL,AF,AR,AY,AQ,B0])];have qP:=fun n=>AGI n G hG (fun g hg=>(hf g hg).2);have qC:=fun n=>AAB n c hch hcr;unfold NS;by_cases hl:ss.length=G.length
 ·have hl':(ss.length:Int)=(G.length:Int):=by omega
  obtain⟨fr,q⟩:=AZ4 c h1 h2 G ss hl (by omega) hf ss.length 0 (by omega) (fun q hq=>by omega);have q:=fun n m=>q n (m+101) (by omega);rw[List.drop_zero]at q;rw[decide_eq_true hl,Bool.true_and];generalize (List.range ss.length).all (HO c G ss)=z at *;generalize DA G=PG at *;generalize F7 c=CN at *;by_cases hp:PG≤(CN:Int)
  ·have hp':¬(CN:Int)<PG:=by omega
   rw[decide_eq_true hp,Bool.true_and];simp only[AD]at q qP qC⊢;cases z<;>(simp at q;simp[c25,AG,hl',qP,qC,hp',q,E1,AF,B0,AR,AY,AQ])
  ·have hp':(CN:Int)<PG:=by omega
   rw[decide_eq_false hp,Bool.false_and];simp only[AD]at q qP qC⊢;simp[c25,AG,hl',qP,qC,hp',E1,AF,B0,AR,AY,AQ]
 ·have hl':¬(ss.length:Int)=(G.length:Int):=by omega
  rw[decide_eq_false hl,Bool.false_and];simp only[AD]at qP qC⊢;simp[c25,AG,hl',E1,AF,B0,AR,AY,AQ]
theorem wD{H:List (List FW)}{r p:Nat}(h1:r<H.length)(h2:p<H[r].length):XF H r p=H[r][p].good:=by unfold XF;rw[List.getD_eq_getElem?_getD,List.getD_eq_getElem?_getD,List.getElem?_eq_getElem h1];simp only[Option.getD_some];rw[List.getElem?_eq_getElem h2];rfl
theorem sK{H:List (List FW)}(hg:∀l∈H,∀x∈l,0≤x.good∧x.good≤100)(r p:Nat)(n:Nat):0≤NT H r p n∧NT H r p n≤n*100:=by
 refine WX fun q hq=>?_;have hL:∀x∈H.getD r [],0≤x.good∧x.good≤100:=by
  rw[List.getD_eq_getElem?_getD];cases h:H[r]? with
  |none=>simp
  |some l=>simpa using hg l (List.mem_of_getElem? h)
 unfold XF;generalize H.getD r []=L at *;rw[List.getD_eq_getElem?_getD];cases h:L[p+q]? with
 |none=>exact⟨Int.le_refl _,by decide⟩
 |some x=>exact hL x (List.mem_of_getElem? h)
theorem AZ5(f:NL)(H:List (List FW))(hg:∀l∈H,∀x∈l,0≤x.good∧x.good≤100)(r p:Nat)(hr:r<H.length)(hf:0≤f.size∧f.size≤4)(hp:(p:Int)+f.size≤H[r].length)(hl:H[r].length≤100):∀(d k:Nat),k+d=f.size.toNat→∃fr,BQ fr 10=some (true,i (NT H r p f.size.toNat))∧BQ fr 11=some (true,.bool (F8 H f.good r p f.size.toNat)) ∧
  ∀n m,d<m→A9 (AE Tryz.prog ann kn (n+100) 44) X4 (ann 44 (BS X4)) m ⟨3,[(3,true,.list false (H.map BO)),(5,true,.ptr 0 5 1 0),(6,true,.ptr 0 6 2 0),(10,true,i (NT H r p k)),(11,true,.bool (F8 H f.good r p k)),(12,true,i k)],⟨[],[(5,1,.box (AQ f)),(6,2,.box (AF ((r:Int),(p:Int))))]⟩⟩ =
   some (.exit 0,⟨3,fr,⟨[],[(5,1,.box (AQ f)),(6,2,.box (AF ((r:Int),(p:Int))))]⟩⟩)
 |0,k,hd=>by
  obtain rfl:k=f.size.toNat:=by omega
  have hk:((f.size.toNat:Nat):Int)=f.size:=by omega
  generalize NT H r p f.size.toNat=HN;generalize F8 H f.good r p f.size.toNat=HP;rw[hk];refine⟨?fr,?g1,?g2,fun n m hm=>?g9⟩;case g9=>
   obtain⟨m,rfl⟩:∃m',m=m'+1:=⟨m-1,by omega⟩
   rw[AB]
   simp[AQ,AF]
   rfl
  all_goals simp
 |d+1,k,hd=>by
  have hk:(k:Int)<f.size:=by omega
  have hw:=BJ (k:=k) (by omega);have hpk:p+k<H[r].length:=by omega
  have hga:=wD hr hpk;have hb:=sK hg r p k;have hgb:=hg _ (List.getElem_mem hr) _ (List.getElem_mem hpk);have hwp:IntKind.i64.wrap ((p:Int)+(k:Int))=(p:Int)+(k:Int):=AS (by omega) (by omega);have hp0:(0:Int)≤(p:Int)+(k:Int):=by omega
  have hp1:(p:Int)+(k:Int)<(H[r].length:Int):=by omega
  have hp2:((p:Int)+(k:Int)).toNat=p+k:=by omega
  have hwn:IntKind.i64.wrap (NT H r p k+H[r][p+k].good)=NT H r p k+H[r][p+k].good:=AS (by omega) (by omega);obtain⟨fr,e1,e2,ih⟩:=AZ5 f H hg r p hr hf hp hl d (k+1) (by omega);refine⟨fr,e1,e2,fun n m hm=>?_⟩;obtain⟨m,rfl⟩:∃m',m=m'+1:=⟨m-1,by omega⟩;have ih:=ih n m (by omega);have s1:NT H r p (k+1)=NT H r p k+H[r][p+k].good:=by rw[←hga];rfl
  have s2:F8 H f.good r p (k+1)=(F8 H f.good r p k&&decide (f.good≤H[r][p+k].good)):=by unfold F8;rw[List.range_succ,List.all_append,←hga];simp
  rw[s1,s2]at ih;generalize NT H r p k=HN at *;generalize F8 H f.good r p k=HP at *;generalize e3:decide (f.good≤H[r][p+k].good)=z at ih;rw[AB];simp only[AQ,AF]at ih⊢;cases HP<;>cases z<;>(simp at ih;simp[hk,hw,hr,hpk,hwp,hp0,hp1,hp2,hwn,e3,BO,CH,E1,ih])
theorem AZ6(n:Nat)(c:A0)(f:NL)(H:List (List FW))(hg:∀l∈H,∀x∈l,0≤x.good∧x.good≤100)(r p:Nat)(hr:r<H.length)(hf:0≤f.size∧f.size≤4)(hp:(p:Int)+f.size≤H[r].length)(hl:H[r].length≤100):AW Tryz.prog kn (AE Tryz.prog ann kn (n+300)) 29 [.agg (AD c),.agg (AQ f),.agg (AF ((r:Int),(p:Int))),.list false (H.map BO)]=some (.tup [i (NT H r p f.size.toNat),.bool (F8 H f.good r p f.size.toNat)]):=by rw[AP rfl,AO Tryz.func29 b29 rfl (by simp[AD,AH,AL,AF,AR,AY,AQ,BO,CH])];obtain⟨fr,e1,e2,q⟩:=AZ5 f H hg r p hr hf hp hl f.size.toNat 0 (by omega);have q:=fun n m=>q n (m+101) (by omega);rw[show NT H r p 0=0 from rfl,show F8 H f.good r p 0=true from rfl]at q;generalize NT H r p f.size.toNat=HN at *;generalize F8 H f.good r p f.size.toNat=HP at *;simp only[AD,AQ,AF]at q⊢;simp at q;simp[c29,AG,q,e1,e2,E1]
theorem ALL(c:A0)(hl:c.chairs.length≤100):∀(d k:Nat),k+d=c.chairs.length→∃fr,BQ fr 1=some (true,.ptr 0 1 0 0) ∧
  ∀n m,d<m→A9 (AE Tryz.prog ann kn (n+100) 76) S0 (ann 76 (BS S0)) m ⟨1,[(1,true,.ptr 0 1 0 0),(4,true,i k)],⟨[],[(1,0,.box (AD c))]⟩⟩ =
   if (c.chairs.drop k).all (fun l=>decide ((l.length:Int)=c.beach.places))=true then some (.exit 0,⟨1,fr,⟨[],[(1,0,.box (AD c))]⟩⟩) else some (.ret,⟨1,[(2,true,i 1)],⟨[],[]⟩⟩)
 |0,k,hk=>by
  have:k=c.chairs.length:=by omega
  subst this;rw[List.drop_length];refine⟨?fr,?g1,fun n m hm=>?g2⟩;case g2=>
   obtain⟨m,rfl⟩:∃m',m=m'+1:=⟨m-1,by omega⟩
   rw[AB]
   simp[AD]
   rfl
  case g1=>simp
 |d+1,k,hk=>by
  have hk':k<c.chairs.length:=by omega
  have hw:=BJ (k:=k) (by omega);obtain⟨fr,e1,ih⟩:=ALL c hl d (k+1) (by omega);rw[List.drop_eq_getElem_cons hk',List.all_cons];refine⟨fr,e1,fun n m hm=>?_⟩;obtain⟨m,rfl⟩:∃m',m=m'+1:=⟨m-1,by omega⟩;have ih:=ih n m (by omega);generalize e1:decide ((c.chairs[k].length:Int)=c.beach.places)=z1;generalize (c.chairs.drop (k+1)).all (fun l=>decide ((l.length:Int)=c.beach.places))=z at ih⊢;rw[AB];simp only[AD]at ih⊢;cases z1<;>cases z<;>(simp at ih;simp[AR,hk',hw,e1,ih])
theorem ALM(c:A0)(hl:c.fams.length≤100):∀(d k:Nat),k+d=c.fams.length→∃fr,
  ∀n m,d<m→A9 (AE Tryz.prog ann kn (n+200) 76) S1 (ann 76 (BS S1)) m ⟨1,[(1,true,.ptr 0 1 0 0),(5,true,i k)],⟨[],[(1,0,.box (AD c))]⟩⟩ =
   if (c.fams.drop k).all KI=true then some (.exit 2,⟨1,fr,⟨[],[(1,0,.box (AD c))]⟩⟩) else some (.ret,⟨1,[(2,true,i 1)],⟨[],[]⟩⟩)
 |0,k,hk=>by
  have:k=c.fams.length:=by omega
  subst this;rw[List.drop_length];refine⟨?fr,fun n m hm=>?g2⟩;case g2=>
   obtain⟨m,rfl⟩:∃m',m=m'+1:=⟨m-1,by omega⟩
   rw[AB]
   simp[AD]
   rfl
 |d+1,k,hk=>by
  have hk':k<c.fams.length:=by omega
  have hw:=BJ (k:=k) (by omega);obtain⟨fr,ih⟩:=ALM c hl d (k+1) (by omega);rw[List.drop_eq_getElem_cons hk',List.all_cons];refine⟨fr,fun n m hm=>?_⟩;obtain⟨m,rfl⟩:∃m',m=m'+1:=⟨m-1,by omega⟩;have ih:=ih n m (by omega);have ef:KI c.fams[k]=(FN c.fams[k].size 1 4&&FN c.fams[k].good 0 5):=rfl;have q1:=fun n=>kIn n c.fams[k].size 1 4;have q2:=fun n=>kIn n c.fams[k].good 0 5;rw[ef];generalize FN c.fams[k].size 1 4=z1 at *;generalize FN c.fams[k].good 0 5=z2 at *;generalize (c.fams.drop (k+1)).all KI=z at ih⊢;rw[AB];simp only[AD]at ih⊢;cases z1<;>cases z2<;>cases z<;>(simp at ih;simp[AQ,hk',hw,q1,q2,ih])
theorem AGO(n:Nat)(c:A0)(hw:∀l∈c.beach.winds,l.length≤100)(hp:c.plan.length≤100)(hch:c.chairs.length≤100):AW Tryz.prog kn (AE Tryz.prog ann kn (n+2400)) 70 [.agg (AD c)]=some (i (EJ c)):=by
 rw[AP rfl,AO Tryz.func70 b70 rfl (by simp[AD,AH,AL,AF,AR,AY,AQ])];have qf:=fun n=>AFL n c.beach hw;unfold EJ;by_cases a1:3<c.fams.length
 ·have e1:(3:Int)<(c.fams.length:Int):=by omega
  rw[if_pos a1];simp only[AD];simp[c70,AG,e1]
 rw[if_neg a1];have e1:¬(3:Int)<(c.fams.length:Int):=by omega
 by_cases a2:CI c.beach≠0
 ·rw[if_pos a2];simp only[AD,AC]at qf⊢;simp[c70,AG,e1,qf,a2,AL,AH,AF]
 rw[if_neg a2];have a2:CI c.beach=0:=by simpa using a2
 have hb:=N9 a2;have qp:=fun n=>AFC n c.beach hb c.plan hp;have qt:=fun n=>cM n c.beach hb;rw[a2]at qf;by_cases a3:DK c.beach c.plan=false
 ·rw[if_pos a3];rw[a3]at qp;simp only[AD,AC]at qf qp⊢;simp[c70,AG,e1,qf,qp,AL,AH,AF]
 rw[if_neg a3];have a3:DK c.beach c.plan=true:=by simpa using a3
 rw[a3]at qp;by_cases a4:BU c.beach=[]
 ·rw[if_pos a4];rw[a4]at qt;simp only[AD,AC]at qf qp qt⊢;simp at qt;simp[c70,AG,e1,qf,qp,qt,AL,AH,AF]
 rw[if_neg a4];have a4':¬((BU c.beach).length:Int)=0:=fun h=>a4 (List.eq_nil_of_length_eq_zero (by omega));by_cases a5:(c.chairs.length:Int)=c.beach.rows
 ·have ec:GS c=c.chairs.all (fun l=>decide ((l.length:Int)=c.beach.places)):=by unfold GS;rw[decide_eq_true a5,Bool.true_and]
  rw[ec];obtain⟨f1,g1,q1⟩:=ALL c hch c.chairs.length 0 (by omega);obtain⟨f2,q2⟩:=ALM c (by omega) c.fams.length 0 (by omega);have q1:=fun n m=>q1 n (m+101) (by omega);have q2:=fun n m=>q2 n (m+101) (by omega);rw[List.drop_zero]at q1 q2;generalize c.chairs.all (fun l=>decide ((l.length:Int)=c.beach.places))=y1 at *;generalize c.fams.all KI=y2 at *;generalize BU c.beach=T at *;simp only[AD,AC]at qf qp qt q1 q2⊢;cases y1<;>cases y2<;>(simp at q1 q2;simp[c70,AG,e1,qf,qp,qt,a4,a4',a5,q1,q2,g1,AL,AH,AF])
 ·have ec:GS c=false:=by unfold GS;rw[decide_eq_false a5,Bool.false_and]
  rw[if_pos ec];generalize BU c.beach=T at *;simp only[AD,AC]at qf qp qt⊢;simp[c70,AG,e1,qf,qp,qt,a4,a4',a5,AL,AH,AF]
theorem AGP(l k:Nat)(o:Option (Nat×AX))(ls:List (List Bool)):(ls.map AR).map (List.map (BD l k o 3))=ls.map AR:=by rw[List.map_map];exact List.map_congr_left fun x _=>rfl
theorem AZ7(ls:List (List Bool)):(ls.map AR).map (List.map dY)=ls.map AR:=by rw[List.map_map];exact List.map_congr_left fun x _=>rfl
theorem LA{P:Program}{fr:Fr}{s:St}(e d c:Nat)(ys:List (List V))(h:B4 P e 0 ys=true):rP P e d c fr s .nil ys=some (⟨c+1,(d,true,.vec s.up.length d c ys.length)::fr,s.put s.up.length d c (.vec e ys)⟩,[(s.up.length,d),(s.up.length,d+F9)]):=by unfold rP;simp[H4,h]
theorem AZ8{k:Nat}{l:List Bool}(h:k+l.length≤100000):B4 Tryz.prog 4 k (l.map AY)=true:=by rw[CA (by simp) (by simp)];simp[maxLen,AY];omega
theorem AZ9{k:Nat}(hk:k≤100000)(q g n:Nat):B4 Tryz.prog 97 k [[.vec 0 q g n]]=true:=by rw[CA (by simp) (by simp)];simp[maxLen];omega
theorem A0A{k:Nat}{l:List NL}(h:k+l.length≤100000):B4 Tryz.prog 94 k (l.map AQ)=true:=by rw[CA (by simp) (by simp)];simp[maxLen,AQ];omega
abbrev bxC(b:AJ)(p:List (List Int))(v w:V):AX:=.box (J9 b++[sl (p.map AL),v,w])
theorem AO0(c:A0)(h1:c.chairs.length≤100)(h2:∀l∈c.chairs,l.length≤100)(cs2:List V)(hcs:∀o,cs2.map (BD 0 28 o 3)=cs2):∀(d k g γ:Nat),k+d=c.chairs.length→2<g→∃g' γ',g≤g'∧∀n m,d<m→A9 (AE Tryz.prog ann kn (n+200) 59) YC (ann 59 (BS YC)) m ⟨g,[(1,true,.ptr 0 1 0 0),(2,true,.ptr 0 2 1 0),(3,true,.ptr 0 3 2 0),(4,true,i k)],⟨[],(1,0,.box (AD c))::(2,1,.box cs2)::(3,2,bxC c.beach c.plan (pv 30 γ ((c.chairs.take k).map AR)) .nil)::pl 30 γ 97 ((c.chairs.take k).map AR)⟩⟩ =
  some (.exit 0,⟨g',[(18,true,.bool false),(17,true,i c.chairs.length),(16,true,.list false (c.chairs.map AR)),(15,true,.ptr 0 1 0 10),(14,true,i c.chairs.length),(1,true,.ptr 0 1 0 0),(2,true,.ptr 0 2 1 0),(3,true,.ptr 0 3 2 0),(4,true,i c.chairs.length)],⟨[],(1,0,.box (AD c))::(2,1,.box cs2)::(3,2,bxC c.beach c.plan (pv 30 γ' (c.chairs.map AR)) .nil)::pl 30 γ' 97 (c.chairs.map AR)⟩⟩)
 |0,k,g,γ,hk,hg=>by
  have:k=c.chairs.length:=by omega
  subst this;rw[List.take_length];refine⟨g,γ,Nat.le_refl _,fun n m hm=>?_⟩;obtain⟨m,rfl⟩:∃m',m=m'+1:=⟨m-1,by omega⟩;rw[AB];simp only[AD,bxC,J9];cases c.chairs<;>simp
 |d+1,k,g,γ,hk,hg=>by
  have hk':k<c.chairs.length:=by omega
  have hw:=BJ (k:=k) (by omega);have h3:=h2 _ (List.getElem_mem hk');have hst:(c.chairs.take (k+1)).map AR=(c.chairs.take k).map AR++[AR c.chairs[k]]:=by rw[List.take_succ_eq_append_getElem hk',List.map_append];rfl
  have hRl:((c.chairs.take k).map AR).length=k:=by rw[List.length_map,List.length_take];omega
  have hto:=fun o=>AGP 0 28 o (c.chairs.take k);have hwk:=AZ7 (c.chairs.take k);have hR1:∀e∈(c.chairs.take k).map AR,e.length=1:=fun e he=>by obtain⟨l,_,rfl⟩:=List.mem_map.1 he;rfl
  have ha:=fun q g n=>AZ9 (k:=((c.chairs.take k).map AR).length) (by omega) q g n;have hai:=AZ8 (k:=0) (l:=c.chairs[k]) (by omega);generalize hLk:c.chairs[k]=L at *;cases L with
  |nil=>
   obtain⟨g',γ',hgg,ih⟩:=AO0 c h1 h2 cs2 hcs d (k+1) (g+1+1) (g+1) (by omega) (by omega)
   refine⟨g',γ',by omega,fun n m hm=>?_⟩
   obtain⟨m,rfl⟩:∃m',m=m'+1:=⟨m-1,by omega⟩
   have ih:=ih n m (by omega)
   rw[hst]at ih
   generalize (c.chairs.take k).map AR=R at *
   rw[AB]
   simp only[AD,bxC,J9]at ih⊢
   simp[AR]at hai
   cases R with
   |nil=>simp[AR,lb,QS]at ih ha;simp[show g+1+1=g+2 from rfl,hk',hw,hLk,AR,AY,ha,hai,hcs,PE,ih,BF,E1,F9,LA,BR,BW,A8,D9,DY,show 2<g+2 by omega]
   |cons r R=>
    have hR2:=hR1 r (by simp)
    have hR3:=eq_true (fun e he=>hR1 e (List.mem_cons_of_mem r he):∀e∈R,e.length=1)
    simp[AR,lb,QS]at ih ha hto hwk
    simp[show g+1+1=g+2 from rfl,hk',hw,hLk,AR,AY,ha,hai,hcs,ih,hto,hwk,hR2,hR3,PE,QS,BF,E1,F9,LA,BR,BW,A8,D9,DY,show 2<g+2 by omega]
  |cons x L=>
   obtain⟨g',γ',hgg,ih⟩:=AO0 c h1 h2 cs2 hcs d (k+1) (g+1+1) (g+1) (by omega) (by omega)
   refine⟨g',γ',by omega,fun n m hm=>?_⟩
   obtain⟨m,rfl⟩:∃m',m=m'+1:=⟨m-1,by omega⟩
   have ih:=ih n m (by omega)
   rw[hst]at ih
   generalize (c.chairs.take k).map AR=R at *
   rw[AB]
   simp only[AD,bxC,J9]at ih⊢
   simp[AR,AY]at hai
   cases R with
   |nil=>simp[AR,AY,lb,QS]at ih ha;simp[show g+1+1=g+2 from rfl,hk',hw,hLk,AR,AY,ha,hai,hcs,PE,ih,BF,E1,F9,LA,BR,BW,A8,D9,DY,show 2<g+2 by omega]
   |cons r R=>
    have hR2:=hR1 r (by simp)
    have hR3:=eq_true (fun e he=>hR1 e (List.mem_cons_of_mem r he):∀e∈R,e.length=1)
    simp[AR,AY,lb,QS]at ih ha hto hwk
    simp[show g+1+1=g+2 from rfl,hk',hw,hLk,AR,AY,ha,hai,hcs,ih,hto,hwk,hR2,hR3,PE,QS,BF,E1,F9,LA,BR,BW,A8,D9,DY,show 2<g+2 by omega]
theorem A0B(c:A0)(h1:c.fams.length≤100)(cs2:List V)(γ3:Nat)(R:List (List V)):∀(d k g γ:Nat),k+d=c.fams.length→2<g→∃g' γ',g≤g'∧∀n m,d<m→A9 (AE Tryz.prog ann kn (n+200) 59) YD (ann 59 (BS YD)) m ⟨g,[(1,true,.ptr 0 1 0 0),(2,true,.ptr 0 2 1 0),(3,true,.ptr 0 3 2 0),(5,true,i k)],⟨[],(1,0,.box (AD c))::(2,1,.box cs2)::(3,2,bxC c.beach c.plan (pv 30 γ3 R) (pv 56 γ ((c.fams.take k).map AQ)))::(pl 30 γ3 97 R++pl 56 γ 94 ((c.fams.take k).map AQ))⟩⟩ =
  some (.exit 2,⟨g',[(36,true,.bool false),(35,true,i c.fams.length),(34,true,.list false (c.fams.map AQ)),(33,true,.ptr 0 1 0 11),(32,true,i c.fams.length),(1,true,.ptr 0 1 0 0),(2,true,.ptr 0 2 1 0),(3,true,.ptr 0 3 2 0),(5,true,i c.fams.length)],⟨[],(1,0,.box (AD c))::(2,1,.box cs2)::(3,2,bxC c.beach c.plan (pv 30 γ3 R) (pv 56 γ' (c.fams.map AQ)))::(pl 30 γ3 97 R++pl 56 γ' 94 (c.fams.map AQ))⟩⟩)
 |0,k,g,γ,hk,hg=>by
  have:k=c.fams.length:=by omega
  subst this;rw[List.take_length];refine⟨g,γ,Nat.le_refl _,fun n m hm=>?_⟩;obtain⟨m,rfl⟩:∃m',m=m'+1:=⟨m-1,by omega⟩;rw[AB];simp only[AD,bxC,J9];cases R<;>cases c.fams<;>simp
 |d+1,k,g,γ,hk,hg=>by
  have hk':k<c.fams.length:=by omega
  have hw:=BJ (k:=k) (by omega);have hst:(c.fams.take (k+1)).map AQ=(c.fams.take k).map AQ++[AQ c.fams[k]]:=by rw[List.take_succ_eq_append_getElem hk',List.map_append];rfl
  have hRl:((c.fams.take k).map AQ).length=k:=by rw[List.length_map,List.length_take];omega
  have hS1:∀e∈(c.fams.take k).map AQ,e.length=4:=fun e he=>by obtain⟨l,_,rfl⟩:=List.mem_map.1 he;rfl
  have ha:=A0A (k:=((c.fams.take k).map AQ).length) (l:=[c.fams[k]]) (by rw[hRl];simp;omega);obtain⟨g',γ',hgg,ih⟩:=A0B c h1 cs2 γ3 R d (k+1) (g+1+1) (g+1) (by omega) (by omega);refine⟨g',γ',by omega,fun n m hm=>?_⟩;obtain⟨m,rfl⟩:∃m',m=m'+1:=⟨m-1,by omega⟩;have ih:=ih n m (by omega);rw[hst]at ih;generalize (c.fams.take k).map AQ=S at *;generalize hLk:c.fams[k]=f at *;rw[AB];simp only[AD,bxC,J9]at ih⊢;cases S with
  |nil=>cases R<;>(simp[AQ,QS]at ih ha;simp[hk',hw,hLk,AQ,QS,ha,ih,BF,E1,F9,LA,BR,BW,A8,D9,DY,show 0<g by omega,show 1<g by omega,show 2<g by omega])
  |cons q S=>
   have hS2:=hS1 q (by simp)
   have hS3:=eq_true (fun e he=>hS1 e (List.mem_cons_of_mem q he):∀e∈S,e.length=4)
   cases R<;>(simp[AQ,QS]at ih ha;simp[hk',hw,hLk,AQ,QS,ha,ih,hS2,hS3,BF,E1,F9,LA,BR,BW,A8,D9,DY,show 0<g by omega,show 1<g by omega,show 2<g by omega])
def eZ(c:A0):List V:=J9 c.beach++[sl (c.plan.map AL),sl (c.chairs.map AR),sl (c.fams.map AQ)]
theorem AO1(n:Nat)(c:A0)(ht:XG c=true):AW Tryz.prog kn (AE Tryz.prog ann kn (n+900)) 21 [.agg (AD c)]=some (.agg (eZ c)):=by
 rw[AP rfl,AO Tryz.func21 b21 rfl (by simp[AD,AH,AL,AF,AR,AY,AQ])];obtain⟨t1,t2,t3,t4,t5,t6⟩:=QR ht;simp only[UA,Bool.and_eq_true,Bool.not_eq_true',Bool.or_eq_false_iff,Bool.not_eq_false',decide_eq_false_iff_not]at t1;obtain⟨⟨⟨⟨⟨u1,u2⟩,u3⟩,u4⟩,u5⟩,_⟩:=t1;obtain⟨u6,u7⟩:=VP u3;have qB:=fun n=>AUF n c.beach (by omega) (by omega) (by omega) (fun l hl=>by have:=u7 l hl;omega) (by omega) (by omega);have qL:=fun n=>AGL n c.plan (by omega) (fun l hl=>by have:=t5 l hl;omega);have hz:∀o,([i 0,i 0,i 0,i 0,.nil,.nil,.nil,.nil,.nil,.nil,.nil,.nil]:List V).map (BD 0 28 o 3)=[i 0,i 0,i 0,i 0,.nil,.nil,.nil,.nil,.nil,.nil,.nil,.nil]:=fun o=>rfl;obtain⟨g1,γ1,h1,q1⟩:=AO0 c (by omega) (fun l hl=>by have:=t6 l hl;omega) _ hz c.chairs.length 0 3 0 (by omega) (by omega);obtain⟨g2,γ2,h2,q2⟩:=A0B c (by omega) [i 0,i 0,i 0,i 0,.nil,.nil,.nil,.nil,.nil,.nil,.nil,.nil] γ1 (c.chairs.map AR) c.fams.length 0 g1 0 (by omega) (by omega);have q1:=fun n m=>q1 n (m+100) (by omega);have q2:=fun n m=>q2 n (m+100) (by omega);rw[show(c.chairs.take 0).map AR=[] from rfl]at q1;rw[show(c.fams.take 0).map AQ=[] from rfl]at q2;have hg2:1<g2:=by omega
 have c1:∀e∈c.chairs.map AR,∀v∈e,AK 7 v=true:=fun e he v hv=>by obtain⟨l,_,rfl⟩:=List.mem_map.1 he;simp only[AR,List.mem_cons,List.not_mem_nil,or_false]at hv;subst hv;simp[AY]
 have c2:∀e∈c.fams.map AQ,∀v∈e,AK 7 v=true:=fun e he v hv=>by obtain⟨l,_,rfl⟩:=List.mem_map.1 he;simp only[AQ,List.mem_cons,List.not_mem_nil,or_false]at hv;rcases hv with rfl|rfl|rfl|rfl<;>rfl
 unfold eZ;simp only[AD,AC,bxC,J9]at q1 q2 qB qL⊢;generalize c.chairs.map AR=R at *;generalize c.fams.map AQ=S at *;cases R with
 |nil=>
  cases S with
  |nil=>
   simp at q1 q2
   simp[c21,AG,qB,qL,q1,q2,hg2,QS,iT,oE,BF,E1,F9,BR,BW,A8,D9,DY]
  |cons t S=>
   have s1:=eq_true (c2 t (by simp))
   have s2:=eq_true (fun e he=>c2 e (List.mem_cons_of_mem t he):∀e∈S,∀v∈e,AK 7 v=true)
   simp[QS]at q1 q2
   simp[c21,AG,qB,qL,q1,q2,s1,s2,hg2,QS,iT,oE,BF,E1,F9,BR,BW,A8,D9,DY]
 |cons r R=>
  have r1:=eq_true (c1 r (by simp))
  have r2:=eq_true (fun e he=>c1 e (List.mem_cons_of_mem r he):∀e∈R,∀v∈e,AK 7 v=true)
  cases S with
  |nil=>
   simp[QS]at q1 q2
   simp[c21,AG,qB,qL,q1,q2,r1,r2,hg2,QS,iT,oE,BF,E1,F9,BR,BW,A8,D9,DY]
  |cons t S=>
   have s1:=eq_true (c2 t (by simp))
   have s2:=eq_true (fun e he=>c2 e (List.mem_cons_of_mem t he):∀e∈S,∀v∈e,AK 7 v=true)
   simp[QS]at q1 q2
   simp[c21,AG,qB,qL,q1,q2,r1,r2,s1,s2,hg2,QS,iT,oE,BF,E1,F9,BR,BW,A8,D9,DY]
end Go.Proofs.Tryz.Op
