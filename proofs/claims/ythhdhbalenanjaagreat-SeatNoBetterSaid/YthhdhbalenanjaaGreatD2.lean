/- Contracts of the reference: Enough, IsAllowed. No condition but a valid case, sure hours for each place. -/
import Derived.Test.YthhdhbalenanjaaGreatA2
import Derived.Test.YthhdhbalenanjaaGreatD1
import Derived.Test.YthhdhbalenanjaaGreatFz
import Derived.Test.YthhdhbalenanjaaGreatEj
import Derived.Test.YthhdhbalenanjaaGreatL
set_option maxRecDepth 100000
set_option linter.unusedSimpArgs false
open Go Go.Pg Go.Proofs Go.Wind
namespace Go.Proofs.Tryz.Op
structure MJ(c:AO)(s:List (List Int)):Prop where
 ln:s.length=c.beach.rows.toNat
 rw':∀l∈s,l.length=c.beach.places.toNat
 bd:∀l∈s,∀x∈l,0≤x∧x≤5
theorem oF{c:AO}(hc:BZ c):MJ c (FM c) where
 ln:=by simp[FM]
 rw':=fun l hl=>by simp only[FM,List.mem_map,List.mem_range]at hl;obtain⟨r,_,rfl⟩:=hl;simp
 bd:=fun l hl x hx=>by simp only[FM,List.mem_map,List.mem_range]at hl;obtain⟨r,_,rfl⟩:=hl;obtain⟨p,_,rfl⟩:=List.mem_map.1 hx;exact nX hc r p
theorem oG{c:AO}{s:List (List Int)}(hs:MJ c s){r p:Nat}(hr:r<s.length)(hp:p<(s[r]).length):C8 s (r:Int) (p:Int)=(s[r])[p]:=by unfold C8;rw[List.getD_eq_getElem?_getD,List.getD_eq_getElem?_getD,Int.toNat_natCast,Int.toNat_natCast,List.getElem?_eq_getElem hr];simp only[Option.getD_some,List.getElem?_eq_getElem hp]
theorem A7Y(c:AO)(hc:BZ c)(s:List (List Int))(hs:MJ c s)(f r p:Nat)(z:Int)(hf:f<c.fams.length)(hz:0≤z∧z≤4)(hr:(r:Int)<c.beach.rows)(hp:(p:Int)+z≤c.beach.places):∀(d k:Nat),k+d=z.toNat→∃fr,∀n m,d<m→BF (AE Tryz.prog ann kn (n+300) 35) bA (ann 35 (BW bA)) m ⟨3,[(1,true,G5 s),(4,true,.ptr 0 4 0 0),(6,true,.ptr 0 6 1 0),(7,true,.ptr 0 7 2 0),(9,true,i k)],⟨[],[(4,0,.box (AD c)),(6,1,.box (A7 (f,z))),(7,2,.box (AF ((r:Int),(p:Int))))]⟩⟩ =
  if ((List.range z.toNat).drop k).all (fun q=>decide ((EN c f).good≤C8 s (r:Int) ((p:Int)+(q:Int))))=true then some (.exit 0,⟨3,fr,⟨[],[(4,0,.box (AD c)),(6,1,.box (A7 (f,z))),(7,2,.box (AF ((r:Int),(p:Int))))]⟩⟩) else some (.ret,⟨3,[(8,true,.bool false)],⟨[],[]⟩⟩)
 |0,k,hd=>by
  obtain rfl:k=z.toNat:=by omega
  have hz2:((z.toNat:Nat):Int)=z:=by omega
  rw[List.drop_eq_nil_of_le (by rw[List.length_range];omega),hz2];refine⟨?fr,fun n m hm=>?g9⟩;case g9=>
   obtain⟨m,rfl⟩:∃m',m=m'+1:=⟨m-1,by omega⟩
   rw[AB]
   simp[AD,A7,AF]
   rfl
 |d+1,k,hd=>by
  have hpl:=hc.be.pl;have hro:=hc.be.ro;have hlt:(k:Int)<z:=by omega
  have hw:=BM (k:=k) (by omega);have hrs:r<s.length:=by rw[hs.ln];omega
  have hrow:=hs.rw' _ (List.getElem_mem hrs);have hpk:p+k<(s[r]).length:=by omega
  have hwp:IntKind.i64.wrap ((p:Int)+(k:Int))=(p:Int)+(k:Int):=AV (by omega) (by omega);have hg:=oG hs hrs hpk;have hgo:=List.getElem?_eq_getElem hpk;have e1:((p+k:Nat):Int)=(p:Int)+(k:Int):=by omega
  rw[e1]at hg;have hfm:EN c f=c.fams[f]:=by simp[EN,List.getElem?_eq_getElem hf]
  have hp0:(0:Int)≤(p:Int)+(k:Int):=by omega
  have hp1:(p:Int)+(k:Int)<((s[r]).length:Int):=by omega
  have hp2:((p:Int)+(k:Int)).toNat=p+k:=by omega
  obtain⟨fr,ih⟩:=A7Y c hc s hs f r p z hf hz hr hp d (k+1) (by omega);refine⟨fr,fun n m hm=>?_⟩;obtain⟨m,rfl⟩:∃m',m=m'+1:=⟨m-1,by omega⟩;have ih:=ih n m (by omega);rw[List.drop_eq_getElem_cons (by rw[List.length_range];omega),List.all_cons,List.getElem_range,hg,hfm];rw[hfm]at ih;generalize ((List.range z.toNat).drop (k+1)).all (fun q=>decide ((c.fams[f]).good≤C8 s (r:Int) ((p:Int)+(q:Int))))=zz at ih⊢;rw[AB];simp only[AD,A7,AF]at ih⊢;by_cases hb:(c.fams[f]).good≤(s[r])[p+k]
  ·have hb2:¬(s[r])[p+k]<(c.fams[f]).good:=by omega
   cases zz<;>(simp at ih;simp[hlt,hw,hrs,hpk,hwp,hp0,hp1,hp2,hf,hb,hb2,AM,AJ,AU,C5,ih])
  ·have hb2:(s[r])[p+k]<(c.fams[f]).good:=by omega
   simp[hlt,hw,hrs,hpk,hwp,hp0,hp1,hp2,hf,hb,hb2,AM,AJ,AU,C5]
theorem AMJ(n:Nat)(c:AO)(hc:BZ c)(s:List (List Int))(hs:MJ c s)(x:Sp)(hx:CQ c x=true)(hf:x.fam<c.fams.length)(hz:0≤x.size∧x.size≤4):A0 Tryz.prog kn (AE Tryz.prog ann kn (n+400)) 88 [.agg (AD c),G5 s,.agg (A7 (gD x)),.agg (AF (spt x))]=some (.bool (BG c s x).enough):=by obtain⟨f,z,r,p⟩:=x;obtain⟨g1,g2,g3,g4⟩:=NH hx;simp only at g1 g2 g3 g4 hf hz;obtain⟨r,rfl⟩:∃k:Nat,r=k:=⟨r.toNat,by omega⟩;obtain⟨p,rfl⟩:∃k:Nat,p=k:=⟨p.toNat,by omega⟩;obtain⟨fr,q⟩:=A7Y c hc s hs f r p z hf hz g2 g4 z.toNat 0 (by omega);have q:=fun n m=>q n (m+101) (by omega);rw[AP rfl,AR Tryz.func88 b88 rfl (by simp[AD,AJ,AM,AF,AS,A3,AU,A7])];rw[List.drop_zero,show(List.range z.toNat).all (fun q=>decide ((EN c f).good≤C8 s (r:Int) ((p:Int)+(q:Int))))=(BG c s ⟨f,z,(r:Int),(p:Int)⟩).enough from rfl]at q;generalize (BG c s ⟨f,z,(r:Int),(p:Int)⟩).enough=zz at *;simp only[AD,A7,AF,gD,spt]at q⊢;cases zz<;>(simp at q;simp[c88,AG,q])
def ZJ(c:AO)(s:List (List Int))(G:List (Nat×Int))(ss:List (Int×Int)):Bool:=HU c G ss&&(List.range ss.length).all fun k=>(BG c s (AW G ss k)).enough
theorem oH{c:AO}(hc:BZ c){s:List (List Int)}{ss:List (Int×Int)}:ZJ c s (AY c []) ss=HS c s ss:=by
 unfold ZJ HS;rw[TW hc];cases hs:DL c ss with
 |false=>rfl
 |true=>
  have hl:=(LV hc hs).1
  have hgl:=C9 c
  have e:A2 c ss=(List.range ss.length).map (AW (AY c []) ss):=by
   refine SK (by omega) (by rw[show(A2 c ss).length=c.fams.length from DO hl,hl]) fun j h1=>?_;have hj:j<c.fams.length:=by rw[←show(A2 c ss).length=c.fams.length from DO hl];exact h1
   have hjs:j<ss.length:=by omega
   have e:=KO (k:=0) (fs:=c.fams) (ss:=ss) j hj hjs h1;rw[Nat.zero_add]at e;refine e.trans ?_;rw[SI];simp only[AW,List.getD_eq_getElem?_getD,List.getElem?_map,List.getElem?_range hj,List.getElem?_eq_getElem hjs,Option.map_some,Option.getD_some,EN,List.getElem?_eq_getElem hj]
  rw[O9,e]
  simp[List.all_map,Function.comp_def]
theorem KB{G:List (Nat×Int)}{ss:List (Int×Int)}{k:Nat}(h1:k<G.length)(h2:k<ss.length):AW G ss k=⟨G[k].1,G[k].2,ss[k].1,ss[k].2⟩:=by simp[AW,List.getD_eq_getElem?_getD,List.getElem?_eq_getElem h1,List.getElem?_eq_getElem h2]
theorem A7Z(c:AO)(hc:BZ c)(s:List (List Int))(hs:MJ c s)(G:List (Nat×Int))(ss:List (Int×Int))(hG:G.length≤100)(hf:∀g∈G,g.1<c.fams.length∧0≤g.2∧g.2≤4)(hl:ss.length=G.length)(hfit:∀k,k<ss.length→CQ c (AW G ss k)=true):∀(d k:Nat),k+d=ss.length→∃fr,∀n m,d<m→BF (AE Tryz.prog ann kn (n+500) 33) bB (ann 33 (BW bB)) m ⟨1,[(1,true,G5 s),(2,true,.list false (G.map A7)),(3,true,.list false (ss.map AF)),(4,true,.ptr 0 4 0 0),(9,true,i k)],⟨[],[(4,0,.box (AD c))]⟩⟩ =
  if ((List.range ss.length).drop k).all (fun k=>(BG c s (AW G ss k)).enough)=true then some (.exit 0,⟨1,fr,⟨[],[(4,0,.box (AD c))]⟩⟩) else some (.ret,⟨1,[(8,true,.bool false)],⟨[],[]⟩⟩)
 |0,k,hd=>by
  obtain rfl:k=ss.length:=by omega
  rw[List.drop_eq_nil_of_le (by rw[List.length_range];omega)];refine⟨?fr,fun n m hm=>?g9⟩;case g9=>
   obtain⟨m,rfl⟩:∃m',m=m'+1:=⟨m-1,by omega⟩
   rw[AB]
   simp[AD]
   rfl
 |d+1,k,hd=>by
  have hk:k<ss.length:=by omega
  have hkG:k<G.length:=by omega
  have hw:=BM (k:=k) (by omega);have hx:=hfit k hk;have e:=KB hkG hk;have hfk:=hf _ (List.getElem_mem hkG);have qE:=fun n=>AMJ n c hc s hs (AW G ss k) hx (by rw[e];exact hfk.1) (by rw[e];exact hfk.2);have eg:A7 (gD (AW G ss k))=[i G[k].1,i G[k].2]:=by rw[e];rfl
  have es:AF (spt (AW G ss k))=[i ss[k].1,i ss[k].2]:=by rw[e];rfl
  rw[eg,es]at qE;obtain⟨fr,ih⟩:=A7Z c hc s hs G ss hG hf hl hfit d (k+1) (by omega);refine⟨fr,fun n m hm=>?_⟩;obtain⟨m,rfl⟩:∃m',m=m'+1:=⟨m-1,by omega⟩;have ih:=ih n m (by omega);rw[List.drop_eq_getElem_cons (by rw[List.length_range];omega),List.all_cons,List.getElem_range];generalize ((List.range ss.length).drop (k+1)).all (fun k=>(BG c s (AW G ss k)).enough)=zz at ih⊢;generalize (BG c s (AW G ss k)).enough=E at *;rw[AB];simp only[AD]at ih qE⊢;cases E<;>cases zz<;>(simp at ih;simp[hk,hkG,hw,qE,AM,AJ,AU,A7,AF,AS,A3,C5,ih])
theorem uQ(n:Nat)(c:AO)(hc:BZ c)(s:List (List Int))(hs:MJ c s)(G:List (Nat×Int))(ss:List (Int×Int))(hG:G.length≤100)(hf:∀g∈G,g.1<c.fams.length∧1≤g.2∧g.2≤4):A0 Tryz.prog kn (AE Tryz.prog ann kn (n+1700)) 36 [.agg (AD c),G5 s,.list false (G.map A7),.list false (ss.map AF)]=some (.bool (ZJ c s G ss)):=by
 have hro:=hc.be.ro;have hpl:=hc.be.pl;have hch:=hc.ch;have qI:=fun n=>aF n c (by omega) (by omega) (by omega) (fun l hl=>by have:=hc.cr l hl;omega) G hG ss (fun g hg=>by have:=hf g hg;omega);rw[AP rfl,AR Tryz.func36 b36 rfl (by simp[AD,AJ,AM,AF,AS,A3,AU,A7])];unfold ZJ;cases hS:HU c G ss with
 |false=>
  rw[hS]at qI
  simp only[AD]at qI⊢
  simp[c36,AG,qI,C5,AM,AJ,AU,A7,AF,AS,A3]
 |true=>
  rw[hS]at qI
  rw[Bool.true_and]
  have hl:ss.length=G.length:=by simp only[HU,Bool.and_eq_true,decide_eq_true_eq]at hS;exact hS.1
  have hfit:∀k,k<ss.length→CQ c (AW G ss k)=true:=fun k hk=>by simp only[HU,Bool.and_eq_true,decide_eq_true_eq,List.all_eq_true,List.mem_range]at hS;have h:=hS.2.2 k hk;simp only[HT,Bool.and_eq_true]at h;exact h.1
  obtain⟨fr,q⟩:=A7Z c hc s hs G ss hG (fun g hg=>by have:=hf g hg;omega) hl hfit ss.length 0 (by omega)
  have q:=fun n m=>q n (m+101) (by omega)
  rw[List.drop_zero]at q
  generalize (List.range ss.length).all (fun k=>(BG c s (AW G ss k)).enough)=zz at *
  simp only[AD]at qI q⊢
  cases zz<;>(simp at q;simp[c36,AG,qI,q,C5,AM,AJ,AU,A7,AF,AS,A3])
def SO(s:List (List Int))(x:Sp)(n:Nat):Int:=DJ (fun p=>C8 s x.row (x.place+(p:Int))) n
def SP(c:AO)(x:Sp)(n:Nat):Int:=DJ (fun p=>if KA c x.row (x.place+(p:Int))=true then 0 else 1) n
def TX(s:List (List Int))(G:List (Nat×Int))(ss:List (Int×Int))(n:Nat):Int:=DJ (fun k=>SO s (AW G ss k) (AW G ss k).size.toNat) n
def TY(c:AO)(G:List (Nat×Int))(ss:List (Int×Int))(n:Nat):Int:=DJ (fun k=>SP c (AW G ss k) (AW G ss k).size.toNat) n
theorem aG{c:AO}{x:Sp}(hx:CQ c x=true):∃r p:Nat,x.row=r∧x.place=p∧(r:Int)<c.beach.rows∧(p:Int)+x.size≤c.beach.places:=by obtain⟨g1,g2,g3,g4⟩:=NH hx;exact⟨x.row.toNat,x.place.toNat,by omega,by omega,by omega,by omega⟩
theorem yY{c:AO}{s:List (List Int)}(hs:MJ c s){r p:Nat}(hr:(r:Int)<c.beach.rows)(hp:(p:Int)<c.beach.places):∃(h1:r<s.length) (h2:p<(s[r]).length),C8 s (r:Int) (p:Int)=(s[r])[p]∧0≤(s[r])[p]∧(s[r])[p]≤5:=by
 have h1:r<s.length:=by rw[hs.ln];omega
 have h2:p<(s[r]).length:=by rw[hs.rw' _ (List.getElem_mem h1)];omega
 exact⟨h1,h2,oG hs h1 h2,hs.bd _ (List.getElem_mem h1) _ (List.getElem_mem h2)⟩
theorem AF2{c:AO}(hc:BZ c){r p:Nat}(hr:(r:Int)<c.beach.rows)(hp:(p:Int)<c.beach.places):∃(h1:r<c.chairs.length) (h2:p<(c.chairs[r]).length),KA c (r:Int) (p:Int)=(c.chairs[r])[p]:=by
 have h1:r<c.chairs.length:=by have:=hc.ch;omega
 have h2:p<(c.chairs[r]).length:=by have:=hc.cr _ (List.getElem_mem h1);omega
 refine⟨h1,h2,?_⟩;unfold KA;rw[List.getD_eq_getElem?_getD,List.getD_eq_getElem?_getD,Int.toNat_natCast,Int.toNat_natCast,List.getElem?_eq_getElem h1];simp only[Option.getD_some,List.getElem?_eq_getElem h2]
theorem yZ{c:AO}{s:List (List Int)}(hs:MJ c s){x:Sp}(hx:CQ c x=true){n:Nat}(hn:(n:Int)≤x.size):0≤SO s x n∧SO s x n≤n*5:=by obtain⟨r,p,e1,e2,h1,h2⟩:=aG hx;refine NO fun q hq=>?_;rw[e1,e2,←Int.natCast_add];obtain⟨_,_,e,b1,b2⟩:=yY hs h1 (p:=p+q) (by omega);rw[e];exact⟨b1,b2⟩
theorem zA(c:AO)(x:Sp)(n:Nat):0≤SP c x n∧SP c x n≤n*1:=NO fun q _=>by split<;>decide
theorem AMK{c:AO}{s:List (List Int)}(hs:MJ c s){G:List (Nat×Int)}{ss:List (Int×Int)}(hf:∀g∈G,0≤g.2∧g.2≤4)(hl:ss.length≤G.length)(hfit:∀k,k<ss.length→CQ c (AW G ss k)=true){n:Nat}(hn:n≤ss.length):0≤TX s G ss n∧TX s G ss n≤n*20:=by
 refine NO fun k hk=>?_;have h4:=hf _ (List.getElem_mem (show k<G.length by omega));have e:(AW G ss k).size=G[k].2:=by rw[KB (by omega) (by omega)]
 have:=yZ hs (hfit k (by omega)) (n:=(AW G ss k).size.toNat) (by omega);omega
theorem AML{c:AO}{G:List (Nat×Int)}{ss:List (Int×Int)}(hf:∀g∈G,0≤g.2∧g.2≤4)(hl:ss.length≤G.length){n:Nat}(hn:n≤ss.length):0≤TY c G ss n∧TY c G ss n≤n*4:=by
 refine NO fun k hk=>?_;have h4:=hf _ (List.getElem_mem (show k<G.length by omega));have e:(AW G ss k).size=G[k].2:=by rw[KB (by omega) (by omega)]
 have:=zA c (AW G ss k) (AW G ss k).size.toNat;omega
section
variable (c:AO)(hc:BZ c)(s:List (List Int))(hs:MJ c s)(G:List (Nat×Int))(ss:List (Int×Int))(hf:∀g∈G,g.1<c.fams.length∧0≤g.2∧g.2≤4)(hl:ss.length≤G.length)(hl2:ss.length≤100)(hfit:∀k,k<ss.length→CQ c (AW G ss k)=true)
include hc hs hf hl hl2 hfit
theorem A70(k:Nat)(hk:k<ss.length)(a:Int)(ha:0≤a∧a≤2000):∀(d q:Nat),q+d=(AW G ss k).size.toNat→∃fr,BE fr 0=some (true,G5 s)∧BE fr 1=some (true,.list false (G.map A7))∧BE fr 2=some (true,.list false (ss.map AF))∧BE fr 7=some (true,i (a+SO s (AW G ss k) (AW G ss k).size.toNat))∧BE fr 8=some (true,i k) ∧
  ∀n m,d<m→BF (AE Tryz.prog ann kn (n+100) 45) bC (ann 45 (BW bC)) m ⟨0,[(0,true,G5 s),(1,true,.list false (G.map A7)),(2,true,.list false (ss.map AF)),(7,true,i (a+SO s (AW G ss k) q)),(8,true,i k),(9,true,i q)],⟨[],[]⟩⟩=some (.exit 2,⟨0,fr,⟨[],[]⟩⟩)
 |0,q,hd=>by
  obtain rfl:q=(AW G ss k).size.toNat:=by omega
  have hkG:k<G.length:=by omega
  have e:=KB hkG hk;have h4:=hf _ (List.getElem_mem hkG);have ez:(((AW G ss k).size.toNat:Nat):Int)=G[k].2:=by rw[e];simp only;omega
  have hnl:¬(((AW G ss k).size.toNat:Nat):Int)<G[k].2:=by omega
  generalize a+SO s (AW G ss k) (AW G ss k).size.toNat=A at *;generalize (AW G ss k).size.toNat=z at *;refine⟨?fr,?g1,?g2,?g3,?g4,?g5,fun n m hm=>?g9⟩;case g9=>
   obtain⟨m,rfl⟩:∃m',m=m'+1:=⟨m-1,by omega⟩
   rw[AB]
   simp[hkG,A7,hnl]
   rfl
  all_goals simp
 |d+1,q,hd=>by
  have hro:=hc.be.ro;have hpl:=hc.be.pl;have hkG:k<G.length:=by omega
  have e:=KB hkG hk;have h4:=hf _ (List.getElem_mem hkG);have hql:(q:Int)<G[k].2:=by
   have:(AW G ss k).size=G[k].2:=by rw[e]
   omega
  have hw:=BM (k:=q) (by omega);obtain⟨r,p,e1,e2,h1,h2⟩:=aG (hfit k hk);have e3:(AW G ss k).size=G[k].2:=by rw[e]
  obtain⟨g1,g2,g3,b1,b2⟩:=yY hs h1 (p:=p+q) (by omega);have e4:ss[k].1=(r:Int):=by rw[←e1,e]
  have e5:ss[k].2=(p:Int):=by rw[←e2,e]
  have hgo:=List.getElem?_eq_getElem g2;have hwp:IntKind.i64.wrap ((p:Int)+(q:Int))=(p:Int)+(q:Int):=AV (by omega) (by omega);have hp0:(0:Int)≤(p:Int)+(q:Int):=by omega
  have hp1:(p:Int)+(q:Int)<((s[r]).length:Int):=by omega
  have hp2:((p:Int)+(q:Int)).toNat=p+q:=by omega
  have hB:=yZ hs (hfit k hk) (n:=q) (by omega);obtain⟨fr,c0,c1,c2,c7,c8,ih⟩:=A70 k hk a ha d (q+1) (by omega);refine⟨fr,c0,c1,c2,c7,c8,fun n m hm=>?_⟩;obtain⟨m,rfl⟩:∃m',m=m'+1:=⟨m-1,by omega⟩;have ih:=ih n m (by omega);have hst:SO s (AW G ss k) (q+1)=SO s (AW G ss k) q+(s[r])[p+q]:=by show SO s (AW G ss k) q+C8 s (AW G ss k).row ((AW G ss k).place+(q:Int))=_;rw[e1,e2,←Int.natCast_add,g3]
  have hwa:IntKind.i64.wrap (a+SO s (AW G ss k) q+(s[r])[p+q])=a+(SO s (AW G ss k) q+(s[r])[p+q]):=by rw[AV (by omega) (by omega)];omega
  rw[hst]at ih;generalize SO s (AW G ss k) q=A at *;rw[AB];simp at ih;simp[hk,hkG,hql,hw,g1,g2,e4,e5,hwp,hp0,hp1,hp2,hwa,AM,AJ,A7,AF,C5,ih]
theorem A71:∀(d k:Nat),k+d=ss.length→∃fr,BE fr 7=some (true,i (TX s G ss ss.length)) ∧
  ∀n m,d<m→BF (AE Tryz.prog ann kn (n+300) 45) bD (ann 45 (BW bD)) m ⟨0,[(0,true,G5 s),(1,true,.list false (G.map A7)),(2,true,.list false (ss.map AF)),(7,true,i (TX s G ss k)),(8,true,i k)],⟨[],[]⟩⟩=some (.exit 0,⟨0,fr,⟨[],[]⟩⟩)
 |0,k,hd=>by
  obtain rfl:k=ss.length:=by omega
  generalize TX s G ss ss.length=A at *;refine⟨?fr,?g1,fun n m hm=>?g9⟩;case g9=>
   obtain⟨m,rfl⟩:∃m',m=m'+1:=⟨m-1,by omega⟩
   rw[AB]
   simp
   rfl
  all_goals simp
 |d+1,k,hd=>by
  have hk:k<ss.length:=by omega
  have hkG:k<G.length:=by omega
  have hw:=BM (k:=k) (by omega);have hB:=AMK hs (fun g hg=>(hf g hg).2) hl hfit (n:=k) (by omega);obtain⟨f0,b0,b1,b2,b7,b8,qi⟩:=A70 c hc s hs G ss hf hl hl2 hfit k hk (TX s G ss k) (by omega) (AW G ss k).size.toNat 0 (by omega);have h4:=hf _ (List.getElem_mem hkG);have e3:(AW G ss k).size=G[k].2:=by rw[KB hkG hk]
  have qi:=fun n m=>qi n (m+100) (by omega);rw[show SO s (AW G ss k) 0=0 from rfl,Int.add_zero]at qi;obtain⟨fr,c7,ih⟩:=A71 d (k+1) (by omega);refine⟨fr,c7,fun n m hm=>?_⟩;obtain⟨m,rfl⟩:∃m',m=m'+1:=⟨m-1,by omega⟩;have ih:=ih n m (by omega);have hst:TX s G ss (k+1)=TX s G ss k+SO s (AW G ss k) (AW G ss k).size.toNat:=rfl;rw[hst]at ih;generalize TX s G ss k=A at *;generalize SO s (AW G ss k) (AW G ss k).size.toNat=B at *;rw[AB];simp at ih qi;simp[hk,hw,qi,b0,b1,b2,b7,b8,C5,ih]
theorem A72(n:Nat):A0 Tryz.prog kn (AE Tryz.prog ann kn (n+500)) 37 [G5 s,.list false (G.map A7),.list false (ss.map AF)]=some (i (TX s G ss ss.length)):=by rw[AP rfl,AR Tryz.func37 b37 rfl (by simp[AM,AJ,AF,A7])];obtain⟨fr,e,q⟩:=A71 c hc s hs G ss hf hl hl2 hfit ss.length 0 (by omega);have q:=fun n m=>q n (m+101) (by omega);rw[show TX s G ss 0=0 from rfl]at q;generalize TX s G ss ss.length=A at *;simp at q;simp[c37,AG,q,e,C5]
omit hs
theorem A73(k:Nat)(hk:k<ss.length)(a:Int)(ha:0≤a∧a≤2000):∀(d q:Nat),q+d=(AW G ss k).size.toNat→∃fr,BE fr 1=some (true,.list false (G.map A7))∧BE fr 2=some (true,.list false (ss.map AF))∧BE fr 3=some (true,.ptr 0 3 0 0)∧BE fr 7=some (true,i (a+SP c (AW G ss k) (AW G ss k).size.toNat))∧BE fr 8=some (true,i k) ∧
  ∀n m,d<m→BF (AE Tryz.prog ann kn (n+100) 47) bE (ann 47 (BW bE)) m ⟨1,[(1,true,.list false (G.map A7)),(2,true,.list false (ss.map AF)),(3,true,.ptr 0 3 0 0),(7,true,i (a+SP c (AW G ss k) q)),(8,true,i k),(9,true,i q)],⟨[],[(3,0,.box (AD c))]⟩⟩=some (.exit 2,⟨1,fr,⟨[],[(3,0,.box (AD c))]⟩⟩)
 |0,q,hd=>by
  obtain rfl:q=(AW G ss k).size.toNat:=by omega
  have hkG:k<G.length:=by omega
  have e:=KB hkG hk;have h4:=hf _ (List.getElem_mem hkG);have ez:(((AW G ss k).size.toNat:Nat):Int)=G[k].2:=by rw[e];simp only;omega
  have hnl:¬(((AW G ss k).size.toNat:Nat):Int)<G[k].2:=by omega
  generalize a+SP c (AW G ss k) (AW G ss k).size.toNat=A at *;generalize (AW G ss k).size.toNat=z at *;refine⟨?fr,?g1,?g2,?g3,?g4,?g5,fun n m hm=>?g9⟩;case g9=>
   obtain⟨m,rfl⟩:∃m',m=m'+1:=⟨m-1,by omega⟩
   rw[AB]
   simp[AD,hkG,A7,hnl]
   rfl
  all_goals simp
 |d+1,q,hd=>by
  have hro:=hc.be.ro;have hpl:=hc.be.pl;have hkG:k<G.length:=by omega
  have e:=KB hkG hk;have h4:=hf _ (List.getElem_mem hkG);have hql:(q:Int)<G[k].2:=by
   have:(AW G ss k).size=G[k].2:=by rw[e]
   omega
  have hw:=BM (k:=q) (by omega);obtain⟨r,p,e1,e2,h1,h2⟩:=aG (hfit k hk);have e3:(AW G ss k).size=G[k].2:=by rw[e]
  obtain⟨g1,g2,g3⟩:=AF2 hc h1 (p:=p+q) (by omega);have e4:ss[k].1=(r:Int):=by rw[←e1,e]
  have e5:ss[k].2=(p:Int):=by rw[←e2,e]
  have hwp:IntKind.i64.wrap ((p:Int)+(q:Int))=(p:Int)+(q:Int):=AV (by omega) (by omega);have hp0:(0:Int)≤(p:Int)+(q:Int):=by omega
  have hp1:(p:Int)+(q:Int)<((c.chairs[r]).length:Int):=by omega
  have hp2:((p:Int)+(q:Int)).toNat=p+q:=by omega
  have hB:=zA c (AW G ss k) q;obtain⟨fr,c1,c2,c3,c7,c8,ih⟩:=A73 k hk a ha d (q+1) (by omega);refine⟨fr,c1,c2,c3,c7,c8,fun n m hm=>?_⟩;obtain⟨m,rfl⟩:∃m',m=m'+1:=⟨m-1,by omega⟩;have ih:=ih n m (by omega);have hst:SP c (AW G ss k) (q+1)=SP c (AW G ss k) q+(if (c.chairs[r])[p+q]=true then 0 else 1):=by show SP c (AW G ss k) q+(if KA c (AW G ss k).row ((AW G ss k).place+(q:Int))=true then 0 else 1)=_;rw[e1,e2,←Int.natCast_add,g3]
  have hwa:IntKind.i64.wrap (a+SP c (AW G ss k) q+1)=a+(SP c (AW G ss k) q+1):=by rw[AV (by omega) (by omega)];omega
  rw[hst]at ih;generalize SP c (AW G ss k) q=A at *;rw[AB];simp only[AD]at ih⊢;cases hz:(c.chairs[r])[p+q]<;>rw[hz]at ih
  ·simp only[Bool.false_eq_true,if_false]at ih;simp at ih;simp[hk,hkG,hql,hw,g1,g2,e4,e5,hwp,hp0,hp1,hp2,hwa,hz,AM,AJ,A7,AF,AS,A3,C5,ih]
  ·simp only[if_true,Int.add_zero]at ih;simp at ih;simp[hk,hkG,hql,hw,g1,g2,e4,e5,hwp,hp0,hp1,hp2,hz,AM,AJ,A7,AF,AS,A3,C5,ih]
theorem A74:∀(d k:Nat),k+d=ss.length→∃fr,BE fr 7=some (true,i (TY c G ss ss.length)) ∧
  ∀n m,d<m→BF (AE Tryz.prog ann kn (n+300) 47) bF (ann 47 (BW bF)) m ⟨1,[(1,true,.list false (G.map A7)),(2,true,.list false (ss.map AF)),(3,true,.ptr 0 3 0 0),(7,true,i (TY c G ss k)),(8,true,i k)],⟨[],[(3,0,.box (AD c))]⟩⟩=some (.exit 0,⟨1,fr,⟨[],[(3,0,.box (AD c))]⟩⟩)
 |0,k,hd=>by
  obtain rfl:k=ss.length:=by omega
  generalize TY c G ss ss.length=A at *;refine⟨?fr,?g1,fun n m hm=>?g9⟩;case g9=>
   obtain⟨m,rfl⟩:∃m',m=m'+1:=⟨m-1,by omega⟩
   rw[AB]
   simp[AD]
   rfl
  all_goals simp
 |d+1,k,hd=>by
  have hk:k<ss.length:=by omega
  have hkG:k<G.length:=by omega
  have hw:=BM (k:=k) (by omega);have hB:=AML (c:=c) (ss:=ss) (fun g hg=>(hf g hg).2) hl (n:=k) (by omega);obtain⟨f0,b1,b2,b3,b7,b8,qi⟩:=A73 c hc G ss hf hl hl2 hfit k hk (TY c G ss k) (by omega) (AW G ss k).size.toNat 0 (by omega);have h4:=hf _ (List.getElem_mem hkG);have e3:(AW G ss k).size=G[k].2:=by rw[KB hkG hk]
  have qi:=fun n m=>qi n (m+100) (by omega);rw[show SP c (AW G ss k) 0=0 from rfl,Int.add_zero]at qi;obtain⟨fr,c7,ih⟩:=A74 d (k+1) (by omega);refine⟨fr,c7,fun n m hm=>?_⟩;obtain⟨m,rfl⟩:∃m',m=m'+1:=⟨m-1,by omega⟩;have ih:=ih n m (by omega);have hst:TY c G ss (k+1)=TY c G ss k+SP c (AW G ss k) (AW G ss k).size.toNat:=rfl;rw[hst]at ih;generalize TY c G ss k=A at *;generalize SP c (AW G ss k) (AW G ss k).size.toNat=B at *;rw[AB];simp only[AD]at ih qi⊢;simp at ih qi;simp[hk,hw,qi,b1,b2,b3,b7,b8,C5,ih]
theorem AF3(n:Nat):A0 Tryz.prog kn (AE Tryz.prog ann kn (n+500)) 38 [.agg (AD c),.list false (G.map A7),.list false (ss.map AF)]=some (i (TY c G ss ss.length)):=by rw[AP rfl,AR Tryz.func38 b38 rfl (by simp[AD,AS,A3,AU,AM,AJ,AF,A7])];obtain⟨fr,e,q⟩:=A74 c hc G ss hf hl hl2 hfit ss.length 0 (by omega);have q:=fun n m=>q n (m+101) (by omega);rw[show TY c G ss 0=0 from rfl]at q;generalize TY c G ss ss.length=A at *;simp only[AD]at q⊢;simp at q;simp[c38,AG,q,e,C5]
end
theorem WS(f:Nat→Int):∀n,((List.range n).map f).sum=DJ f n
 |0=>rfl
 |n+1=>by rw[List.range_succ,List.map_append,List.sum_append,WS f n];simp[DJ]
theorem YG{c:AO}{ss:List (Int×Int)}(hl:ss.length=c.fams.length):A2 c ss=(List.range ss.length).map (AW (AY c []) ss):=by
 have hgl:=C9 c;refine SK (by omega) (by rw[show(A2 c ss).length=c.fams.length from DO hl,hl]) fun j h1=>?_;have hj:j<c.fams.length:=by rw[←show(A2 c ss).length=c.fams.length from DO hl];exact h1
 have hjs:j<ss.length:=by omega
 have e:=KO (k:=0) (fs:=c.fams) (ss:=ss) j hj hjs h1;rw[Nat.zero_add]at e;refine e.trans ?_;rw[SI];simp only[AW,List.getD_eq_getElem?_getD,List.getElem?_map,List.getElem?_range hj,List.getElem?_eq_getElem hjs,Option.map_some,Option.getD_some,EN,List.getElem?_eq_getElem hj]
theorem AMM{c:AO}{s:List (List Int)}{ss:List (Int×Int)}(hl:ss.length=c.fams.length):(D6 c s (A2 c ss)).sun=TX s (AY c []) ss ss.length∧(D6 c s (A2 c ss)).carried=TY c (AY c []) ss ss.length:=by rw[O9,YG hl];simp only[List.map_map];exact⟨WS _ _,WS _ _⟩
theorem PF{c:AO}{ss:List (Int×Int)}(hs:DL c ss=true):∀x∈A2 c ss,CQ c x=true:=by simp only[DL,JG,Bool.and_eq_true,decide_eq_true_eq]at hs;exact LQ c _ _ hs.2.1
theorem AF4{c:AO}{ss:List (Int×Int)}(hs:DL c ss=true):∀k,k<ss.length→CQ c (AW (AY c []) ss k)=true:=fun k hk=>by
 have hl:ss.length=c.fams.length:=by simp only[DL,Bool.and_eq_true,decide_eq_true_eq]at hs;exact hs.1
 refine PF hs _ ?_;rw[YG hl];exact List.mem_map.2 ⟨k,List.mem_range.2 hk,rfl⟩
theorem oI{c:AO}(hc:BZ c){ss:List (Int×Int)}(hs:DL c ss=true):D6 c (A4 c) (A2 c ss)=D6 c (FM c) (A2 c ss):=ACG (iG hc) (PF hs)
theorem SQ{c:AO}(hc:BZ c)(ss:List (Int×Int)):HS c (A4 c) ss=HS c (FM c) ss:=by
 unfold HS;cases hs:DL c ss with
 |false=>rfl
 |true=>rw[oI hc hs]
def oJ(c:AO)(ss:List (Int×Int)):Int:=TX (FM c) (AY c []) ss ss.length
def ACU(c:AO)(ss:List (Int×Int)):Int:=TY c (AY c []) ss ss.length
theorem AF5{c:AO}(hc:BZ c){ss:List (Int×Int)}(hs:DL c ss=true):(D6 c (A4 c) (A2 c ss)).sun=oJ c ss∧(D6 c (A4 c) (A2 c ss)).carried=ACU c ss:=by
 have hl:ss.length=c.fams.length:=by simp only[DL,Bool.and_eq_true,decide_eq_true_eq]at hs;exact hs.1
 rw[oI hc hs];exact AMM hl
theorem zC{c:AO}(h0:DZ c=0)(ss:List (Int×Int))(a b:Int):WP c ss a b=(HS c (FM c) ss&&(decide (a≤oJ c ss)&&decide (ACU c ss≤b))):=by
 have hc:=KK h0;rw[←SQ hc];unfold WP HS;rw[h0,decide_eq_true rfl,Bool.true_and];cases hs:DL c ss with
 |false=>rfl
 |true=>
  rw[(AF5 hc hs).1,(AF5 hc hs).2]
  simp only[Bool.true_and]
theorem AMN{c:AO}(h0:DZ c=0)(hn:J6 c=none)(ss:List (Int×Int)):HS c (FM c) ss=false:=by
 cases h:HS c (FM c) ss with
 |false=>rfl
 |true=>
  rw[←SQ (KK h0)]at h
  have hm:=NG.2 (nZ h)
  have:=iF.1 hn
  rw[this]at hm
  cases hm
theorem AMO{c:AO}(h0:DZ c=0){q:List Sp×CE}(hb:J6 c=some q){ss:List (Int×Int)}(ha:HS c (FM c) ss=true):oJ c ss≤q.2.sun∧(oJ c ss<q.2.sun∨q.2.carried≤ACU c ss):=by have hc:=KK h0;rw[←SQ hc]at ha;obtain⟨b,t⟩:=q;obtain⟨_,_,h3⟩:=QS hb;have:=h3 _ (NG.2 (nZ ha));obtain⟨e1,e2⟩:=AF5 hc (WO.1 ha).1;unfold uI at this;rw[e1,e2]at this;simp only;omega
theorem AVS{k:Nat}{x:Int}(h:k≤10000):B9 Tryz.prog 3 k [[i x]]=true:=by rw[CA (by simp) (by simp)];simp[maxLen];omega
theorem AVT{k:Nat}{x:List Int}(h:k≤10000):B9 Tryz.prog 22 k [[li x]]=true:=by rw[CA (by simp) (by simp)];simp[maxLen];omega
theorem oK{b:AK}(hb:Valid b):(BO b).length≤1100:=by have h1:=hb.many;have h2:(BO b).length≤((List.range (GR b.winds)).map (EJ b.winds)).length:=List.length_filter_le _ _;rw[List.length_map,List.length_range]at h2;omega
def NL(c:AO)(r n:Nat):List Int:=(List.range n).map (ON c r)
theorem ACV(c:AO)(r n:Nat):NL c r (n+1)=NL c r n++[ON c r n]:=by simp[NL,List.range_succ]
theorem oL(c:AO)(r n:Nat):(NL c r n).length=n:=by simp[NL]
def HW(c:AO)(n:Nat):List (List Int):=(List.range n).map fun r=>NL c r c.beach.places.toNat
theorem uR(c:AO)(n:Nat):HW c (n+1)=HW c n++[NL c n c.beach.places.toNat]:=by simp[HW,List.range_succ]
theorem iL(c:AO)(n:Nat):(HW c n).length=n:=by simp[HW]
theorem A75(c:AO)(hc:BZ c)(hp:FY c.beach c.plan)(r:Nat)(hr:(r:Int)<c.beach.rows)(γ4:Nat)(A:List (List V)):∀(d q cc γ:Nat),q+d=c.beach.places.toNat→∃c' γ',∀n m,d<m→BF (AE Tryz.prog ann kn (n+3400) 49) bM (ann 49 (BW bM)) m ⟨cc,[(1,true,.ptr 0 1 0 0),(3,true,.list false ((BO c.beach).map AM)),(4,true,pv 47 γ4 A),(5,true,i r),(6,true,pv 43 γ ((NL c r q).map AJ)),(7,true,i q)],⟨[],(1,0,.box (AD c))::(pl 43 γ 3 ((NL c r q).map AJ)++pl 47 γ4 22 A)⟩⟩ =
  some (.exit 2,⟨c',[(24,true,.bool false),(23,true,i c.beach.places),(22,true,.ptr 0 1 0 2),(21,true,.ptr 0 1 0 0),(20,true,i c.beach.places),(1,true,.ptr 0 1 0 0),(3,true,.list false ((BO c.beach).map AM)),(4,true,pv 47 γ4 A),(5,true,i r),(6,true,pv 43 γ' ((NL c r c.beach.places.toNat).map AJ)),(7,true,i c.beach.places)],⟨[],(1,0,.box (AD c))::(pl 43 γ' 3 ((NL c r c.beach.places.toNat).map AJ)++pl 47 γ4 22 A)⟩⟩)
 |0,q,cc,γ,hd=>by
  have hpl:=hc.be.pl;have hq:q=c.beach.places.toNat:=by omega
  have hq':c.beach.places=(q:Int):=by omega
  rw[←hq];refine⟨cc,γ,fun n m hm=>?_⟩;obtain⟨m,rfl⟩:∃m',m=m'+1:=⟨m-1,by omega⟩;rw[AB];generalize NL c r q=R;simp[AD,hq',LB,LC,LD,G7,G8,IH]
 |d+1,q,cc,γ,hd=>by
  have hpl:=hc.be.pl;have hro:=hc.be.ro;have hw:=BM (k:=q) (by omega);have hq':(q:Int)<c.beach.places:=by omega
  have hTl:=oK hc.be;have qB:=fun n=>AF7 n hc.be hp r q (by omega) (by omega) (BO c.beach) (fun t ht=>NP ht) hTl;have hcc:cc<cc+1+1:=by omega
  have eS:(DS DM ((BO c.beach).map fun t=>(B8 c.beach c.plan t r q).good)).1=ON c r q:=rfl;obtain⟨c',γ',ih⟩:=A75 c hc hp r hr γ4 A d (q+1) (cc+1+1+1) (cc+1+1) (by omega);rw[ACV]at ih;have happ:=AVS (k:=(NL c r q).length) (x:=ON c r q) (by rw[oL];omega);refine⟨c',γ',fun n m hm=>?_⟩;obtain⟨m,rfl⟩:∃m',m=m'+1:=⟨m-1,by omega⟩;have ih:=ih n m (by omega);generalize NL c r c.beach.places.toNat=RF at ih⊢;generalize NL c r q=R at ih happ⊢;generalize DS DM ((BO c.beach).map fun t=>(B8 c.beach c.plan t r q).calm)=B1 at *;generalize DS DM ((BO c.beach).map fun t=>(B8 c.beach c.plan t r q).good)=B2 at *;generalize ON c r q=S at *;subst eS;generalize BO c.beach=T at *;rw[AB];simp only[AD,AC,DK]at qB ih⊢;simp[AJ]at ih;simp[hq',hw,hcc,qB,happ,AJ,AM,DK,AZ,C5,ih,LB,LC,LD,G7,G8,IH]
theorem A76(c:AO)(hc:BZ c)(hp:FY c.beach c.plan):∀(d r cc γ:Nat),r+d=c.beach.rows.toNat→∃fr c' γ',BE fr 4=some (true,pv 47 γ' ((HW c c.beach.rows.toNat).map AM))∧∀n m,d<m→BF (AE Tryz.prog ann kn (n+3600) 49) bN (ann 49 (BW bN)) m ⟨cc,[(1,true,.ptr 0 1 0 0),(3,true,.list false ((BO c.beach).map AM)),(4,true,pv 47 γ ((HW c r).map AM)),(5,true,i r)],⟨[],(1,0,.box (AD c))::pl 47 γ 22 ((HW c r).map AM)⟩⟩ =
  some (.exit 0,⟨c',fr,⟨[],(1,0,.box (AD c))::pl 47 γ' 22 ((HW c c.beach.rows.toNat).map AM)⟩⟩)
 |0,r,cc,γ,hd=>by
  have hro:=hc.be.ro;have hr:r=c.beach.rows.toNat:=by omega
  have hr':¬(r:Int)<c.beach.rows:=by omega
  rw[←hr];generalize BO c.beach=T;refine⟨?fr,cc,γ,?g1,fun n m hm=>?g2⟩;case g2=>
   obtain⟨m,rfl⟩:∃m',m=m'+1:=⟨m-1,by omega⟩
   rw[AB]
   simp[AD,hr']
   rfl
  case g1=>simp
 |d+1,r,cc,γ,hd=>by
  have hro:=hc.be.ro;have hpl:=hc.be.pl;have hw:=BM (k:=r) (by omega);have hr':(r:Int)<c.beach.rows:=by omega
  obtain⟨c1,γ1,q⟩:=A75 c hc hp r hr' γ ((HW c r).map AM) c.beach.places.toNat 0 cc 0 (by omega);have q:=fun n m=>q n (m+100) (by omega);obtain⟨fr,c',γ',e1,ih⟩:=A76 c hc hp d (r+1) (c1+1) c1 (by omega);rw[uR]at ih;have h0:NL c r 0=[]:=rfl;rw[h0]at q;have happ:=AVT (k:=(HW c r).length) (x:=NL c r c.beach.places.toNat) (by rw[iL];omega);have hne:NL c r c.beach.places.toNat≠[]:=by intro e;have:=congrArg List.length e;rw[oL]at this;simp at this;omega
  refine⟨fr,c',γ',e1,fun n m hm=>?_⟩;obtain⟨m,rfl⟩:∃m',m=m'+1:=⟨m-1,by omega⟩;have ih:=ih n m (by omega);generalize HW c c.beach.rows.toNat=FF at ih⊢;generalize NL c r c.beach.places.toNat=RR at ih q happ hne;generalize BO c.beach=T at *;obtain⟨y,RR,rfl⟩:=List.exists_cons_of_ne_nil hne;have htl:∀o,FL 0 43 o (pl 47 γ 22 ((HW c r).map AM))=pl 47 γ 22 ((HW c r).map AM):=fun o=>XX (by decide) _ _ _ (by simp[AM,AJ]);have hsl:sl ([i y]::RR.map AJ)=.list false ([i y]::RR.map AJ):=rfl;rw[AB];simp only[AD]at ih q⊢;simp[AM,AJ]at ih q;have happ:B9 Tryz.prog 22 (HW c r).length [[V.list false ([i y]::RR.map AJ)]]=true:=happ;simp[hr',hw,AM,AJ,q,ih,happ,htl,hsl,LB,LC,LD,G7,G8,IH];try exact ih
theorem AVU(n:Nat)(c:AO)(hc:BZ c):A0 Tryz.prog kn (AE Tryz.prog ann kn (n+3800)) 35 [.agg (AD c)]=some (G5 (FM c)):=by
 rw[AP rfl,AR Tryz.func35 b35 rfl (by simp[AD,AS,A3,AU,AJ,AM,AF])];have hro:=hc.be.ro;have hp:=AAC hc.pl;have qt:=fun n=>iM n c.beach hc.be;rw[slX hc.tr]at qt;obtain⟨fr,c',γ',e1,q⟩:=A76 c hc hp c.beach.rows.toNat 0 1 0 (by omega);have q:=fun n m=>q n (m+100) (by omega);have h0:HW c 0=[]:=rfl;rw[h0]at q;have hne:HW c c.beach.rows.toNat≠[]:=fun e=>by have:=congrArg List.length e;rw[iL]at this;simp at this;omega
 have hF:FM c=HW c c.beach.rows.toNat:=rfl;rw[hF];generalize HW c c.beach.rows.toNat=F at *;generalize BO c.beach=T at *;simp only[AD,AC]at q qt⊢;simp at q;simp[c35,AG,AJ,AM,AF,q,qt,e1];obtain⟨y,F,rfl⟩:=List.exists_cons_of_ne_nil hne;rfl
end Go.Proofs.Tryz.Op
