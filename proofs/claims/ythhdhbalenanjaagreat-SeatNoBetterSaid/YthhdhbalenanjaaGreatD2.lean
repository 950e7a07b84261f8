/- Contracts of the reference: Enough, IsAllowed. No condition but a valid case, sure hours for each place. -/
import Derived.Test.YthhdhbalenanjaaGreatA2
import Derived.Test.YthhdhbalenanjaaGreatEj
open Go.Proofs.Tryz renaming prog->cg
open List renaming getElem?_eq_getElem->bj,getElem_mem->bk,getD_eq_getElem?_getD->bq,range->bx,length_range->bz,exists_cons_of_ne_nil->bc,drop_eq_getElem_cons->bf,mem_range->bg,drop_eq_nil_of_le->bm,range_succ->bp,mem_map->cj,getElem?_range->ck,getElem_range->cq,getElem?_map->cw
open Bool renaming and_eq_true->bw,true_and->cx
open Int renaming toNat_natCast->bb,natCast_add->bn,add_zero->cz
open Option renaming getD_some->bh,map_some->cd
set_option maxRecDepth 100000
set_option linter.unusedSimpArgs false
open Go Go.Pg Go.Proofs Go.Wind
namespace Go.Proofs.Tryz.Op
structure LZ(c:AV)(s:List (List Int)):Prop where
 ln:s.length=c.beach.rows.toNat
 rw':∀l∈s,l.length=c.beach.places.toNat
 bd:∀l∈s,∀x∈l,0<=x/\x<=5
theorem mU{c:AV}(hc:B5 c):LZ c (FC c) where
 ln:=by simp[FC]
 rw':=fun l hl=>by simp only[FC,cj,bg]at hl;obtain⟨r,_,rfl⟩:=hl;simp
 bd:=fun l hl x hx=>by simp only[FC,cj,bg]at hl;obtain⟨r,_,rfl⟩:=hl;obtain⟨p,_,rfl⟩:=cj.1 hx;exact mM hc r p
theorem mV{c:AV}{s:List (List Int)}(hs:LZ c s){r p:Nat}(hr:r<s.length)(hp:p<(s[r]).length):DE s (r:Int) (p:Int)=(s[r])[p]:=by unfold DE;rw[bq,bq,bb,bb,bj hr];simp only[bh,bj hp]
theorem A5D(c:AV)(hc:B5 c)(s:List (List Int))(hs:LZ c s)(f r p:Nat)(z:Int)(hf:f<c.fams.length)(hz:0<=z/\z<=4)(hr:(r:Int)<c.beach.rows)(hp:(p:Int)+z<=c.beach.places):∀(d k:Nat),k+d=z.toNat->∃fr,∀n m,d<m->BF (AE cg ann kn (n+300) 35) ZZ (ann 35 (BW ZZ)) m ⟨3,[(1,true,GW s),(4,true,.ptr 0 4 0 0),(6,true,.ptr 0 6 1 0),(7,true,.ptr 0 7 2 0),(9,true,i k)],⟨[],[(4,0,.box (AD c)),(6,1,.box (AZ (f,z))),(7,2,.box (AF ((r:Int),(p:Int))))]⟩⟩ =
  if ((bx z.toNat).drop k).all (fun q=>decide ((E4 c f).good<=DE s (r:Int) ((p:Int)+(q:Int))))=true then some (.exit 0,⟨3,fr,⟨[],[(4,0,.box (AD c)),(6,1,.box (AZ (f,z))),(7,2,.box (AF ((r:Int),(p:Int))))]⟩⟩) else some (.ret,⟨3,[(8,true,.bool false)],⟨[],[]⟩⟩)
 |0,k,hd=>by
  obtain rfl:k=z.toNat:=by omega
  have hz2:((z.toNat:Nat):Int)=z:=by omega
  rw[bm (by rw[bz];omega),hz2];refine⟨?fr,fun n m hm=>?g9⟩;case g9=>
   obtain⟨m,rfl⟩:=qNz m (by omega)
   rw[AB]
   simp[AD,AZ,AF]
   rfl
 |d+1,k,hd=>by
  have hpl:=hc.be.pl;have hro:=hc.be.ro;have hlt:(k:Int)<z:=by omega
  have hw:=BM (k:=k) (by omega);have hrs:r<s.length:=by rw[hs.ln];omega
  have hrow:=hs.rw' _ (bk hrs);have hpk:p+k<(s[r]).length:=by omega
  have hwp:IntKind.i64.wrap ((p:Int)+(k:Int))=(p:Int)+(k:Int):=AU (by omega) (by omega);have hg:=mV hs hrs hpk;have hgo:=bj hpk;have e1:((p+k:Nat):Int)=(p:Int)+(k:Int):=by omega
  rw[e1]at hg;have hfm:E4 c f=c.fams[f]:=by simp[E4,bj hf]
  have hp0:(0:Int)<=(p:Int)+(k:Int):=by omega
  have hp1:(p:Int)+(k:Int)<((s[r]).length:Int):=by omega
  have hp2:((p:Int)+(k:Int)).toNat=p+k:=by omega
  obtain⟨fr,ih⟩:=A5D c hc s hs f r p z hf hz hr hp d (k+1) (by omega);refine⟨fr,fun n m hm=>?_⟩;obtain⟨m,rfl⟩:=qNz m (by omega);have ih:=ih n m (by omega);rw[bf (by rw[bz];omega),List.all_cons,cq,hg,hfm];rw[hfm]at ih;generalize ((bx z.toNat).drop (k+1)).all (fun q=>decide ((c.fams[f]).good<=DE s (r:Int) ((p:Int)+(q:Int))))=zz at ih|-;rw[AB];simp only[AD,AZ,AF]at ih|-;by_cases hb:(c.fams[f]).good<=(s[r])[p+k]
  ·have hb2:¬(s[r])[p+k]<(c.fams[f]).good:=by omega
   cases zz<;>(simp at ih;simp[hlt,hw,hrs,hpk,hwp,hp0,hp1,hp2,hf,hb,hb2,AL,AJ,AS,C0,ih])
  ·have hb2:(s[r])[p+k]<(c.fams[f]).good:=by omega
   simp[hlt,hw,hrs,hpk,hwp,hp0,hp1,hp2,hf,hb,hb2,AL,AJ,AS,C0]
theorem AKP(n:Nat)(c:AV)(hc:B5 c)(s:List (List Int))(hs:LZ c s)(x:Sp)(hx:C6 c x=true)(hf:x.fam<c.fams.length)(hz:0<=x.size/\x.size<=4):A2 cg kn (AE cg ann kn (n+400)) 88 [.agg (AD c),GW s,.agg (AZ (wM x)),.agg (AF (spt x))]=some (.bool (BJ c s x).enough):=by obtain⟨f,z,r,p⟩:=x;obtain⟨g1,g2,g3,g4⟩:=P4 hx;simp only at g1 g2 g3 g4 hf hz;obtain⟨r,rfl⟩:∃k:Nat,r=k:=⟨r.toNat,by omega⟩;obtain⟨p,rfl⟩:∃k:Nat,p=k:=⟨p.toNat,by omega⟩;obtain⟨fr,q⟩:=A5D c hc s hs f r p z hf hz g2 g4 z.toNat 0 (by omega);have q:=fun n m=>q n (m+101) (by omega);rw[AO rfl,AP Tryz.func88 b88 rfl (by simp[AD,AJ,AL,AF,AR,A4,AS,AZ])];rw[List.drop_zero,show(bx z.toNat).all (fun q=>decide ((E4 c f).good<=DE s (r:Int) ((p:Int)+(q:Int))))=(BJ c s ⟨f,z,(r:Int),(p:Int)⟩).enough from rfl]at q;generalize (BJ c s ⟨f,z,(r:Int),(p:Int)⟩).enough=zz at *;simp only[AD,AZ,AF,wM,spt]at q|-;cases zz<;>(simp at q;simp[c88,AG,q])
def YR(c:AV)(s:List (List Int))(G:List (Nat×Int))(ss:List (Int×Int)):Bool:=HO c G ss&&(bx ss.length).all fun k=>(BJ c s (AW G ss k)).enough
theorem mW{c:AV}(hc:B5 c){s:List (List Int)}{ss:List (Int×Int)}:YR c s (AY c []) ss=HM c s ss:=by
 unfold YR HM;rw[S7 hc];cases hs:D3 c ss with
 |false=>rfl
 |true=>
  have hl:=(P5 hc hs).1
  have hgl:=C3 c
  have e:A8 c ss=(bx ss.length).map (AW (AY c []) ss):=by
   refine RQ (by omega) (by rw[show(A8 c ss).length=c.fams.length from D0 hl,hl]) fun j h1=>?_;have hj:j<c.fams.length:=by rw[<-show(A8 c ss).length=c.fams.length from D0 hl];exact h1
   have hjs:j<ss.length:=by omega
   have e:=KG (k:=0) (fs:=c.fams) (ss:=ss) j hj hjs h1;rw[Nat.zero_add]at e;refine e.trans ?_;rw[RO];simp only[AW,bq,cw,ck hj,bj hjs,cd,bh,E4,bj hj]
  rw[VZ,e]
  simp[List.all_map,Function.comp_def]
theorem J4{G:List (Nat×Int)}{ss:List (Int×Int)}{k:Nat}(h1:k<G.length)(h2:k<ss.length):AW G ss k=⟨G[k].1,G[k].2,ss[k].1,ss[k].2⟩:=by simp[AW,bq,bj h1,bj h2]
theorem A5E(c:AV)(hc:B5 c)(s:List (List Int))(hs:LZ c s)(G:List (Nat×Int))(ss:List (Int×Int))(hG:G.length<=100)(hf:∀g∈G,g.1<c.fams.length/\0<=g.2/\g.2<=4)(hl:ss.length=G.length)(hfit:∀k,k<ss.length->C6 c (AW G ss k)=true):∀(d k:Nat),k+d=ss.length->∃fr,∀n m,d<m->BF (AE cg ann kn (n+500) 33) Z0 (ann 33 (BW Z0)) m ⟨1,[(1,true,GW s),(2,true,.list false (G.map AZ)),(3,true,.list false (ss.map AF)),(4,true,.ptr 0 4 0 0),(9,true,i k)],⟨[],[(4,0,.box (AD c))]⟩⟩ =
  if ((bx ss.length).drop k).all (fun k=>(BJ c s (AW G ss k)).enough)=true then some (.exit 0,⟨1,fr,⟨[],[(4,0,.box (AD c))]⟩⟩) else some (.ret,⟨1,[(8,true,.bool false)],⟨[],[]⟩⟩)
 |0,k,hd=>by
  obtain rfl:k=ss.length:=by omega
  rw[bm (by rw[bz];omega)];refine⟨?fr,fun n m hm=>?g9⟩;case g9=>
   obtain⟨m,rfl⟩:=qNz m (by omega)
   rw[AB]
   simp[AD]
   rfl
 |d+1,k,hd=>by
  have hk:k<ss.length:=by omega
  have hkG:k<G.length:=by omega
  have hw:=BM (k:=k) (by omega);have hx:=hfit k hk;have e:=J4 hkG hk;have hfk:=hf _ (bk hkG);have qE:=fun n=>AKP n c hc s hs (AW G ss k) hx (by rw[e];exact hfk.1) (by rw[e];exact hfk.2);have eg:AZ (wM (AW G ss k))=[i G[k].1,i G[k].2]:=by rw[e];rfl
  have es:AF (spt (AW G ss k))=[i ss[k].1,i ss[k].2]:=by rw[e];rfl
  rw[eg,es]at qE;obtain⟨fr,ih⟩:=A5E c hc s hs G ss hG hf hl hfit d (k+1) (by omega);refine⟨fr,fun n m hm=>?_⟩;obtain⟨m,rfl⟩:=qNz m (by omega);have ih:=ih n m (by omega);rw[bf (by rw[bz];omega),List.all_cons,cq];generalize ((bx ss.length).drop (k+1)).all (fun k=>(BJ c s (AW G ss k)).enough)=zz at ih|-;generalize (BJ c s (AW G ss k)).enough=E at *;rw[AB];simp only[AD]at ih qE|-;cases E<;>cases zz<;>(simp at ih;simp[hk,hkG,hw,qE,AL,AJ,AS,AZ,AF,AR,A4,C0,ih])
theorem sU(n:Nat)(c:AV)(hc:B5 c)(s:List (List Int))(hs:LZ c s)(G:List (Nat×Int))(ss:List (Int×Int))(hG:G.length<=100)(hf:∀g∈G,g.1<c.fams.length/\1<=g.2/\g.2<=4):A2 cg kn (AE cg ann kn (n+1700)) 36 [.agg (AD c),GW s,.list false (G.map AZ),.list false (ss.map AF)]=some (.bool (YR c s G ss)):=by
 have hro:=hc.be.ro;have hpl:=hc.be.pl;have hch:=hc.ch;have qI:=fun n=>ZH n c (by omega) (by omega) (by omega) (fun l hl=>by have:=hc.cr l hl;omega) G hG ss (fun g hg=>by have:=hf g hg;omega);rw[AO rfl,AP Tryz.func36 b36 rfl (by simp[AD,AJ,AL,AF,AR,A4,AS,AZ])];unfold YR;cases hS:HO c G ss with
 |false=>
  rw[hS]at qI
  simp only[AD]at qI|-
  simp[c36,AG,qI,C0,AL,AJ,AS,AZ,AF,AR,A4]
 |true=>
  rw[hS]at qI
  rw[cx]
  have hl:ss.length=G.length:=by simp only[HO,bw,decide_eq_true_eq]at hS;exact hS.1
  have hfit:∀k,k<ss.length->C6 c (AW G ss k)=true:=fun k hk=>by simp only[HO,bw,decide_eq_true_eq,List.all_eq_true,bg]at hS;have h:=hS.2.2 k hk;simp only[HN,bw]at h;exact h.1
  obtain⟨fr,q⟩:=A5E c hc s hs G ss hG (fun g hg=>by have:=hf g hg;omega) hl hfit ss.length 0 (by omega)
  have q:=fun n m=>q n (m+101) (by omega)
  rw[List.drop_zero]at q
  generalize (bx ss.length).all (fun k=>(BJ c s (AW G ss k)).enough)=zz at *
  simp only[AD]at qI q|-
  cases zz<;>(simp at q;simp[c36,AG,qI,q,C0,AL,AJ,AS,AZ,AF,AR,A4])
def RV(s:List (List Int))(x:Sp)(n:Nat):Int:=E0 (fun p=>DE s x.row (x.place+(p:Int))) n
def RW(c:AV)(x:Sp)(n:Nat):Int:=E0 (fun p=>if J3 c x.row (x.place+(p:Int))=true then 0 else 1) n
def S8(s:List (List Int))(G:List (Nat×Int))(ss:List (Int×Int))(n:Nat):Int:=E0 (fun k=>RV s (AW G ss k) (AW G ss k).size.toNat) n
def S9(c:AV)(G:List (Nat×Int))(ss:List (Int×Int))(n:Nat):Int:=E0 (fun k=>RW c (AW G ss k) (AW G ss k).size.toNat) n
theorem ZI{c:AV}{x:Sp}(hx:C6 c x=true):∃r p:Nat,x.row=r/\x.place=p/\(r:Int)<c.beach.rows/\(p:Int)+x.size<=c.beach.places:=by obtain⟨g1,g2,g3,g4⟩:=P4 hx;exact⟨x.row.toNat,x.place.toNat,by omega,by omega,by omega,by omega⟩
theorem wW{c:AV}{s:List (List Int)}(hs:LZ c s){r p:Nat}(hr:(r:Int)<c.beach.rows)(hp:(p:Int)<c.beach.places):∃(h1:r<s.length) (h2:p<(s[r]).length),DE s (r:Int) (p:Int)=(s[r])[p]/\0<=(s[r])[p]/\(s[r])[p]<=5:=by
 have h1:r<s.length:=by rw[hs.ln];omega
 have h2:p<(s[r]).length:=by rw[hs.rw' _ (bk h1)];omega
 exact⟨h1,h2,mV hs h1 h2,hs.bd _ (bk h1) _ (bk h2)⟩
theorem AEA{c:AV}(hc:B5 c){r p:Nat}(hr:(r:Int)<c.beach.rows)(hp:(p:Int)<c.beach.places):∃(h1:r<c.chairs.length) (h2:p<(c.chairs[r]).length),J3 c (r:Int) (p:Int)=(c.chairs[r])[p]:=by
 have h1:r<c.chairs.length:=by have:=hc.ch;omega
 have h2:p<(c.chairs[r]).length:=by have:=hc.cr _ (bk h1);omega
 refine⟨h1,h2,?_⟩;unfold J3;rw[bq,bq,bb,bb,bj h1];simp only[bh,bj h2]
theorem wX{c:AV}{s:List (List Int)}(hs:LZ c s){x:Sp}(hx:C6 c x=true){n:Nat}(hn:(n:Int)<=x.size):0<=RV s x n/\RV s x n<=n*5:=by obtain⟨r,p,e1,e2,h1,h2⟩:=ZI hx;refine M8 fun q hq=>?_;rw[e1,e2,<-bn];obtain⟨_,_,e,b1,b2⟩:=wW hs h1 (p:=p+q) (by omega);rw[e];exact⟨b1,b2⟩
theorem wY(c:AV)(x:Sp)(n:Nat):0<=RW c x n/\RW c x n<=n*1:=M8 fun q _=>by split<;>decide
theorem AKQ{c:AV}{s:List (List Int)}(hs:LZ c s){G:List (Nat×Int)}{ss:List (Int×Int)}(hf:∀g∈G,0<=g.2/\g.2<=4)(hl:ss.length<=G.length)(hfit:∀k,k<ss.length->C6 c (AW G ss k)=true){n:Nat}(hn:n<=ss.length):0<=S8 s G ss n/\S8 s G ss n<=n*20:=by
 refine M8 fun k hk=>?_;have h4:=hf _ (bk (show k<G.length by omega));have e:(AW G ss k).size=G[k].2:=by rw[J4 (by omega) (by omega)]
 have:=wX hs (hfit k (by omega)) (n:=(AW G ss k).size.toNat) (by omega);omega
theorem AKR{c:AV}{G:List (Nat×Int)}{ss:List (Int×Int)}(hf:∀g∈G,0<=g.2/\g.2<=4)(hl:ss.length<=G.length){n:Nat}(hn:n<=ss.length):0<=S9 c G ss n/\S9 c G ss n<=n*4:=by
 refine M8 fun k hk=>?_;have h4:=hf _ (bk (show k<G.length by omega));have e:(AW G ss k).size=G[k].2:=by rw[J4 (by omega) (by omega)]
 have:=wY c (AW G ss k) (AW G ss k).size.toNat;omega
section
variable (c:AV)(hc:B5 c)(s:List (List Int))(hs:LZ c s)(G:List (Nat×Int))(ss:List (Int×Int))(hf:∀g∈G,g.1<c.fams.length/\0<=g.2/\g.2<=4)(hl:ss.length<=G.length)(hl2:ss.length<=100)(hfit:∀k,k<ss.length->C6 c (AW G ss k)=true)
include hc hs hf hl hl2 hfit
omit hl2 in
theorem A5F(k:Nat)(hk:k<ss.length)(a:Int)(ha:0<=a/\a<=2000):∀(d q:Nat),q+d=(AW G ss k).size.toNat->∃fr,BC fr 0=some (true,GW s)/\BC fr 1=some (true,.list false (G.map AZ))/\BC fr 2=some (true,.list false (ss.map AF))/\BC fr 7=some (true,i (a+RV s (AW G ss k) (AW G ss k).size.toNat))/\BC fr 8=some (true,i k) /\
  ∀n m,d<m->BF (AE cg ann kn (n+100) 45) Z1 (ann 45 (BW Z1)) m ⟨0,[(0,true,GW s),(1,true,.list false (G.map AZ)),(2,true,.list false (ss.map AF)),(7,true,i (a+RV s (AW G ss k) q)),(8,true,i k),(9,true,i q)],⟨[],[]⟩⟩=some (.exit 2,⟨0,fr,⟨[],[]⟩⟩)
 |0,q,hd=>by
  obtain rfl:q=(AW G ss k).size.toNat:=by omega
  have hkG:k<G.length:=by omega
  have e:=J4 hkG hk;have h4:=hf _ (bk hkG);have ez:(((AW G ss k).size.toNat:Nat):Int)=G[k].2:=by rw[e];simp only;omega
  have hnl:¬(((AW G ss k).size.toNat:Nat):Int)<G[k].2:=by omega
  generalize a+RV s (AW G ss k) (AW G ss k).size.toNat=A at *;generalize (AW G ss k).size.toNat=z at *;refine⟨?fr,?g1,?g2,?g3,?g4,?g5,fun n m hm=>?g9⟩;case g9=>
   obtain⟨m,rfl⟩:=qNz m (by omega)
   rw[AB]
   simp[hkG,AZ,hnl]
   rfl
  all_goals simp
 |d+1,q,hd=>by
  have hro:=hc.be.ro;have hpl:=hc.be.pl;have hkG:k<G.length:=by omega
  have e:=J4 hkG hk;have h4:=hf _ (bk hkG);have hql:(q:Int)<G[k].2:=by
   have:(AW G ss k).size=G[k].2:=by rw[e]
   omega
  have hw:=BM (k:=q) (by omega);obtain⟨r,p,e1,e2,h1,h2⟩:=ZI (hfit k hk);have e3:(AW G ss k).size=G[k].2:=by rw[e]
  obtain⟨g1,g2,g3,b1,b2⟩:=wW hs h1 (p:=p+q) (by omega);have e4:ss[k].1=(r:Int):=by rw[<-e1,e]
  have e5:ss[k].2=(p:Int):=by rw[<-e2,e]
  have hgo:=bj g2;have hwp:IntKind.i64.wrap ((p:Int)+(q:Int))=(p:Int)+(q:Int):=AU (by omega) (by omega);have hp0:(0:Int)<=(p:Int)+(q:Int):=by omega
  have hp1:(p:Int)+(q:Int)<((s[r]).length:Int):=by omega
  have hp2:((p:Int)+(q:Int)).toNat=p+q:=by omega
  have hB:=wX hs (hfit k hk) (n:=q) (by omega);obtain⟨fr,c0,c1,c2,c7,c8,ih⟩:=A5F k hk a ha d (q+1) (by omega);refine⟨fr,c0,c1,c2,c7,c8,fun n m hm=>?_⟩;obtain⟨m,rfl⟩:=qNz m (by omega);have ih:=ih n m (by omega);have hst:RV s (AW G ss k) (q+1)=RV s (AW G ss k) q+(s[r])[p+q]:=by show RV s (AW G ss k) q+DE s (AW G ss k).row ((AW G ss k).place+(q:Int))=_;rw[e1,e2,<-bn,g3]
  have hwa:IntKind.i64.wrap (a+RV s (AW G ss k) q+(s[r])[p+q])=a+(RV s (AW G ss k) q+(s[r])[p+q]):=by rw[AU (by omega) (by omega)];omega
  rw[hst]at ih;generalize RV s (AW G ss k) q=A at *;rw[AB];simp at ih;simp[hk,hkG,hql,hw,g1,g2,e4,e5,hwp,hp0,hp1,hp2,hwa,AL,AJ,AZ,AF,C0,ih]
theorem A5G:∀(d k:Nat),k+d=ss.length->∃fr,BC fr 7=some (true,i (S8 s G ss ss.length)) /\
  ∀n m,d<m->BF (AE cg ann kn (n+300) 45) Z2 (ann 45 (BW Z2)) m ⟨0,[(0,true,GW s),(1,true,.list false (G.map AZ)),(2,true,.list false (ss.map AF)),(7,true,i (S8 s G ss k)),(8,true,i k)],⟨[],[]⟩⟩=some (.exit 0,⟨0,fr,⟨[],[]⟩⟩)
 |0,k,hd=>by
  obtain rfl:k=ss.length:=by omega
  generalize S8 s G ss ss.length=A at *;refine⟨?fr,?g1,fun n m hm=>?g9⟩;case g9=>
   obtain⟨m,rfl⟩:=qNz m (by omega)
   rw[AB]
   simp
   rfl
  all_goals simp
 |d+1,k,hd=>by
  have hk:k<ss.length:=by omega
  have hkG:k<G.length:=by omega
  have hw:=BM (k:=k) (by omega);have hB:=AKQ hs (fun g hg=>(hf g hg).2) hl hfit (n:=k) (by omega);obtain⟨f0,b0,b1,b2,b7,b8,qi⟩:=A5F c hc s hs G ss hf hl hfit k hk (S8 s G ss k) (by omega) (AW G ss k).size.toNat 0 (by omega);have h4:=hf _ (bk hkG);have e3:(AW G ss k).size=G[k].2:=by rw[J4 hkG hk]
  have qi:=fun n m=>qi n (m+100) (by omega);rw[show RV s (AW G ss k) 0=0 from rfl,cz]at qi;obtain⟨fr,c7,ih⟩:=A5G d (k+1) (by omega);refine⟨fr,c7,fun n m hm=>?_⟩;obtain⟨m,rfl⟩:=qNz m (by omega);have ih:=ih n m (by omega);have hst:S8 s G ss (k+1)=S8 s G ss k+RV s (AW G ss k) (AW G ss k).size.toNat:=rfl;rw[hst]at ih;generalize S8 s G ss k=A at *;generalize RV s (AW G ss k) (AW G ss k).size.toNat=B at *;rw[AB];simp at ih qi;simp[hk,hw,qi,b0,b1,b2,b7,b8,C0,ih]
theorem A5H(n:Nat):A2 cg kn (AE cg ann kn (n+500)) 37 [GW s,.list false (G.map AZ),.list false (ss.map AF)]=some (i (S8 s G ss ss.length)):=by rw[AO rfl,AP Tryz.func37 b37 rfl (by simp[AL,AJ,AF,AZ])];obtain⟨fr,e,q⟩:=A5G c hc s hs G ss hf hl hl2 hfit ss.length 0 (by omega);have q:=fun n m=>q n (m+101) (by omega);rw[show S8 s G ss 0=0 from rfl]at q;generalize S8 s G ss ss.length=A at *;simp at q;simp[c37,AG,q,e,C0]
omit hs
omit hl2 in
theorem A5I(k:Nat)(hk:k<ss.length)(a:Int)(ha:0<=a/\a<=2000):∀(d q:Nat),q+d=(AW G ss k).size.toNat->∃fr,BC fr 1=some (true,.list false (G.map AZ))/\BC fr 2=some (true,.list false (ss.map AF))/\BC fr 3=some (true,.ptr 0 3 0 0)/\BC fr 7=some (true,i (a+RW c (AW G ss k) (AW G ss k).size.toNat))/\BC fr 8=some (true,i k) /\
  ∀n m,d<m->BF (AE cg ann kn (n+100) 47) Z3 (ann 47 (BW Z3)) m ⟨1,[(1,true,.list false (G.map AZ)),(2,true,.list false (ss.map AF)),(3,true,.ptr 0 3 0 0),(7,true,i (a+RW c (AW G ss k) q)),(8,true,i k),(9,true,i q)],⟨[],[(3,0,.box (AD c))]⟩⟩=some (.exit 2,⟨1,fr,⟨[],[(3,0,.box (AD c))]⟩⟩)
 |0,q,hd=>by
  obtain rfl:q=(AW G ss k).size.toNat:=by omega
  have hkG:k<G.length:=by omega
  have e:=J4 hkG hk;have h4:=hf _ (bk hkG);have ez:(((AW G ss k).size.toNat:Nat):Int)=G[k].2:=by rw[e];simp only;omega
  have hnl:¬(((AW G ss k).size.toNat:Nat):Int)<G[k].2:=by omega
  generalize a+RW c (AW G ss k) (AW G ss k).size.toNat=A at *;generalize (AW G ss k).size.toNat=z at *;refine⟨?fr,?g1,?g2,?g3,?g4,?g5,fun n m hm=>?g9⟩;case g9=>
   obtain⟨m,rfl⟩:=qNz m (by omega)
   rw[AB]
   simp[AD,hkG,AZ,hnl]
   rfl
  all_goals simp
 |d+1,q,hd=>by
  have hro:=hc.be.ro;have hpl:=hc.be.pl;have hkG:k<G.length:=by omega
  have e:=J4 hkG hk;have h4:=hf _ (bk hkG);have hql:(q:Int)<G[k].2:=by
   have:(AW G ss k).size=G[k].2:=by rw[e]
   omega
  have hw:=BM (k:=q) (by omega);obtain⟨r,p,e1,e2,h1,h2⟩:=ZI (hfit k hk);have e3:(AW G ss k).size=G[k].2:=by rw[e]
  obtain⟨g1,g2,g3⟩:=AEA hc h1 (p:=p+q) (by omega);have e4:ss[k].1=(r:Int):=by rw[<-e1,e]
  have e5:ss[k].2=(p:Int):=by rw[<-e2,e]
  have hwp:IntKind.i64.wrap ((p:Int)+(q:Int))=(p:Int)+(q:Int):=AU (by omega) (by omega);have hp0:(0:Int)<=(p:Int)+(q:Int):=by omega
  have hp1:(p:Int)+(q:Int)<((c.chairs[r]).length:Int):=by omega
  have hp2:((p:Int)+(q:Int)).toNat=p+q:=by omega
  have hB:=wY c (AW G ss k) q;obtain⟨fr,c1,c2,c3,c7,c8,ih⟩:=A5I k hk a ha d (q+1) (by omega);refine⟨fr,c1,c2,c3,c7,c8,fun n m hm=>?_⟩;obtain⟨m,rfl⟩:=qNz m (by omega);have ih:=ih n m (by omega);have hst:RW c (AW G ss k) (q+1)=RW c (AW G ss k) q+(if (c.chairs[r])[p+q]=true then 0 else 1):=by show RW c (AW G ss k) q+(if J3 c (AW G ss k).row ((AW G ss k).place+(q:Int))=true then 0 else 1)=_;rw[e1,e2,<-bn,g3]
  have hwa:IntKind.i64.wrap (a+RW c (AW G ss k) q+1)=a+(RW c (AW G ss k) q+1):=by rw[AU (by omega) (by omega)];omega
  rw[hst]at ih;generalize RW c (AW G ss k) q=A at *;rw[AB];simp only[AD]at ih|-;cases hz:(c.chairs[r])[p+q]<;>rw[hz]at ih
  ·simp only[Bool.false_eq_true,if_false]at ih;simp at ih;simp[hk,hkG,hql,hw,g1,g2,e4,e5,hwp,hp0,hp1,hp2,hwa,hz,AL,AJ,AZ,AF,AR,A4,C0,ih]
  ·simp only[if_true,cz]at ih;simp at ih;simp[hk,hkG,hql,hw,g1,g2,e4,e5,hwp,hp0,hp1,hp2,hz,AL,AJ,AZ,AF,AR,A4,C0,ih]
theorem A5J:∀(d k:Nat),k+d=ss.length->∃fr,BC fr 7=some (true,i (S9 c G ss ss.length)) /\
  ∀n m,d<m->BF (AE cg ann kn (n+300) 47) Z4 (ann 47 (BW Z4)) m ⟨1,[(1,true,.list false (G.map AZ)),(2,true,.list false (ss.map AF)),(3,true,.ptr 0 3 0 0),(7,true,i (S9 c G ss k)),(8,true,i k)],⟨[],[(3,0,.box (AD c))]⟩⟩=some (.exit 0,⟨1,fr,⟨[],[(3,0,.box (AD c))]⟩⟩)
 |0,k,hd=>by
  obtain rfl:k=ss.length:=by omega
  generalize S9 c G ss ss.length=A at *;refine⟨?fr,?g1,fun n m hm=>?g9⟩;case g9=>
   obtain⟨m,rfl⟩:=qNz m (by omega)
   rw[AB]
   simp[AD]
   rfl
  all_goals simp
 |d+1,k,hd=>by
  have hk:k<ss.length:=by omega
  have hkG:k<G.length:=by omega
  have hw:=BM (k:=k) (by omega);have hB:=AKR (c:=c) (ss:=ss) (fun g hg=>(hf g hg).2) hl (n:=k) (by omega);obtain⟨f0,b1,b2,b3,b7,b8,qi⟩:=A5I c hc G ss hf hl hfit k hk (S9 c G ss k) (by omega) (AW G ss k).size.toNat 0 (by omega);have h4:=hf _ (bk hkG);have e3:(AW G ss k).size=G[k].2:=by rw[J4 hkG hk]
  have qi:=fun n m=>qi n (m+100) (by omega);rw[show RW c (AW G ss k) 0=0 from rfl,cz]at qi;obtain⟨fr,c7,ih⟩:=A5J d (k+1) (by omega);refine⟨fr,c7,fun n m hm=>?_⟩;obtain⟨m,rfl⟩:=qNz m (by omega);have ih:=ih n m (by omega);have hst:S9 c G ss (k+1)=S9 c G ss k+RW c (AW G ss k) (AW G ss k).size.toNat:=rfl;rw[hst]at ih;generalize S9 c G ss k=A at *;generalize RW c (AW G ss k) (AW G ss k).size.toNat=B at *;rw[AB];simp only[AD]at ih qi|-;simp at ih qi;simp[hk,hw,qi,b1,b2,b3,b7,b8,C0,ih]
theorem AEB(n:Nat):A2 cg kn (AE cg ann kn (n+500)) 38 [.agg (AD c),.list false (G.map AZ),.list false (ss.map AF)]=some (i (S9 c G ss ss.length)):=by rw[AO rfl,AP Tryz.func38 b38 rfl (by simp[AD,AR,A4,AS,AL,AJ,AF,AZ])];obtain⟨fr,e,q⟩:=A5J c hc G ss hf hl hl2 hfit ss.length 0 (by omega);have q:=fun n m=>q n (m+101) (by omega);rw[show S9 c G ss 0=0 from rfl]at q;generalize S9 c G ss ss.length=A at *;simp only[AD]at q|-;simp at q;simp[c38,AG,q,e,C0]
end
theorem V5(f:Nat->Int):∀n,((bx n).map f).sum=E0 f n
 |0=>rfl
 |n+1=>by rw[bp,List.map_append,List.sum_append,V5 f n];simp[E0]
theorem XL{c:AV}{ss:List (Int×Int)}(hl:ss.length=c.fams.length):A8 c ss=(bx ss.length).map (AW (AY c []) ss):=by
 have hgl:=C3 c;refine RQ (by omega) (by rw[show(A8 c ss).length=c.fams.length from D0 hl,hl]) fun j h1=>?_;have hj:j<c.fams.length:=by rw[<-show(A8 c ss).length=c.fams.length from D0 hl];exact h1
 have hjs:j<ss.length:=by omega
 have e:=KG (k:=0) (fs:=c.fams) (ss:=ss) j hj hjs h1;rw[Nat.zero_add]at e;refine e.trans ?_;rw[RO];simp only[AW,bq,cw,ck hj,bj hjs,cd,bh,E4,bj hj]
theorem AKS{c:AV}{s:List (List Int)}{ss:List (Int×Int)}(hl:ss.length=c.fams.length):(D8 c s (A8 c ss)).sun=S8 s (AY c []) ss ss.length/\(D8 c s (A8 c ss)).carried=S9 c (AY c []) ss ss.length:=by rw[VZ,XL hl];simp only[List.map_map];exact⟨V5 _ _,V5 _ _⟩
theorem OW{c:AV}{ss:List (Int×Int)}(hs:D3 c ss=true):∀x∈A8 c ss,C6 c x=true:=by simp only[D3,I5,bw,decide_eq_true_eq]at hs;exact LF c _ _ hs.2.1
theorem AEC{c:AV}{ss:List (Int×Int)}(hs:D3 c ss=true):∀k,k<ss.length->C6 c (AW (AY c []) ss k)=true:=fun k hk=>by
 have hl:ss.length=c.fams.length:=by simp only[D3,bw,decide_eq_true_eq]at hs;exact hs.1
 refine OW hs _ ?_;rw[XL hl];exact cj.2 ⟨k,bg.2 hk,rfl⟩
theorem mX{c:AV}(hc:B5 c){ss:List (Int×Int)}(hs:D3 c ss=true):D8 c (A1 c) (A8 c ss)=D8 c (FC c) (A8 c ss):=AAT (fX hc) (OW hs)
theorem RY{c:AV}(hc:B5 c)(ss:List (Int×Int)):HM c (A1 c) ss=HM c (FC c) ss:=by
 unfold HM;cases hs:D3 c ss with
 |false=>rfl
 |true=>rw[mX hc hs]
def mY(c:AV)(ss:List (Int×Int)):Int:=S8 (FC c) (AY c []) ss ss.length
def AA5(c:AV)(ss:List (Int×Int)):Int:=S9 c (AY c []) ss ss.length
theorem AED{c:AV}(hc:B5 c){ss:List (Int×Int)}(hs:D3 c ss=true):(D8 c (A1 c) (A8 c ss)).sun=mY c ss/\(D8 c (A1 c) (A8 c ss)).carried=AA5 c ss:=by
 have hl:ss.length=c.fams.length:=by simp only[D3,bw,decide_eq_true_eq]at hs;exact hs.1
 rw[mX hc hs];exact AKS hl
theorem wZ{c:AV}(h0:FG c=0)(ss:List (Int×Int))(a b:Int):V2 c ss a b=(HM c (FC c) ss&&(decide (a<=mY c ss)&&decide (AA5 c ss<=b))):=by
 have hc:=KC h0;rw[<-RY hc];unfold V2 HM;rw[h0,decide_eq_true rfl,cx];cases hs:D3 c ss with
 |false=>rfl
 |true=>
  rw[(AED hc hs).1,(AED hc hs).2]
  simp only[cx]
theorem AKT{c:AV}(h0:FG c=0)(hn:JZ c=none)(ss:List (Int×Int)):HM c (FC c) ss=false:=by
 cases h:HM c (FC c) ss with
 |false=>rfl
 |true=>
  rw[<-RY (KC h0)]at h
  have hm:=jH.2 (mO h)
  have:=AAR.1 hn
  rw[this]at hm
  cases hm
theorem AKU{c:AV}(h0:FG c=0){q:List Sp×CE}(hb:JZ c=some q){ss:List (Int×Int)}(ha:HM c (FC c) ss=true):mY c ss<=q.2.sun/\(mY c ss<q.2.sun\/q.2.carried<=AA5 c ss):=by have hc:=KC h0;rw[<-RY hc]at ha;obtain⟨b,t⟩:=q;obtain⟨_,_,h3⟩:=fW hb;have:=h3 _ (jH.2 (mO ha));obtain⟨e1,e2⟩:=AED hc (V1.1 ha).1;unfold geS at this;rw[e1,e2]at this;simp only;omega
theorem ATG{k:Nat}{x:Int}(h:k<=10000):B9 cg 3 k [[i x]]=true:=by rw[CB (by simp) (by simp)];simp[maxLen];omega
theorem ATH{k:Nat}{x:List Int}(h:k<=10000):B9 cg 22 k [[li x]]=true:=by rw[CB (by simp) (by simp)];simp[maxLen];omega
theorem mZ{b:AN}(hb:Valid b):(BU b).length<=1100:=by have h1:=hb.many;have h2:(BU b).length<=((bx (GI b.winds)).map (EA b.winds)).length:=List.length_filter_le _ _;rw[List.length_map,bz]at h2;omega
def M5(c:AV)(r n:Nat):List Int:=(bx n).map (N5 c r)
theorem AA6(c:AV)(r n:Nat):M5 c r (n+1)=M5 c r n++[N5 c r n]:=by simp[M5,bp]
theorem nA(c:AV)(r n:Nat):(M5 c r n).length=n:=by simp[M5]
def HQ(c:AV)(n:Nat):List (List Int):=(bx n).map fun r=>M5 c r c.beach.places.toNat
theorem sV(c:AV)(n:Nat):HQ c (n+1)=HQ c n++[M5 c n c.beach.places.toNat]:=by simp[HQ,bp]
theorem gB(c:AV)(n:Nat):(HQ c n).length=n:=by simp[HQ]
theorem A5K(c:AV)(hc:B5 c)(hp:FP c.beach c.plan)(r:Nat)(hr:(r:Int)<c.beach.rows)(γ4:Nat)(A:List (List V)):∀(d q cc γ:Nat),q+d=c.beach.places.toNat->∃c' γ',∀n m,d<m->BF (AE cg ann kn (n+3400) 49) aB (ann 49 (BW aB)) m ⟨cc,[(1,true,.ptr 0 1 0 0),(3,true,.list false ((BU c.beach).map AL)),(4,true,pv 47 γ4 A),(5,true,i r),(6,true,pv 43 γ ((M5 c r q).map AJ)),(7,true,i q)],⟨[],(1,0,.box (AD c))::(pl 43 γ 3 ((M5 c r q).map AJ)++pl 47 γ4 22 A)⟩⟩ =
  some (.exit 2,⟨c',[(24,true,.bool false),(23,true,i c.beach.places),(22,true,.ptr 0 1 0 2),(21,true,.ptr 0 1 0 0),(20,true,i c.beach.places),(1,true,.ptr 0 1 0 0),(3,true,.list false ((BU c.beach).map AL)),(4,true,pv 47 γ4 A),(5,true,i r),(6,true,pv 43 γ' ((M5 c r c.beach.places.toNat).map AJ)),(7,true,i c.beach.places)],⟨[],(1,0,.box (AD c))::(pl 43 γ' 3 ((M5 c r c.beach.places.toNat).map AJ)++pl 47 γ4 22 A)⟩⟩)
 |0,q,cc,γ,hd=>by
  have hpl:=hc.be.pl;have hq:q=c.beach.places.toNat:=by omega
  have hq':c.beach.places=(q:Int):=by omega
  rw[<-hq];refine⟨cc,γ,fun n m hm=>?_⟩;obtain⟨m,rfl⟩:=qNz m (by omega);rw[AB];generalize M5 c r q=R;simp[AD,hq',K1,K2,K3,GU,GV,IB]
 |d+1,q,cc,γ,hd=>by
  have hpl:=hc.be.pl;have hro:=hc.be.ro;have hw:=BM (k:=q) (by omega);have hq':(q:Int)<c.beach.places:=by omega
  have hTl:=mZ hc.be;have qB:=fun n=>AEE n hc.be hp r q (by omega) (by omega) (BU c.beach) (fun t ht=>UK ht) hTl;have hcc:cc<cc+1+1:=by omega
  have eS:(DP DQ ((BU c.beach).map fun t=>(CJ c.beach c.plan t r q).good)).1=N5 c r q:=rfl;obtain⟨c',γ',ih⟩:=A5K c hc hp r hr γ4 A d (q+1) (cc+1+1+1) (cc+1+1) (by omega);rw[AA6]at ih;have happ:=ATG (k:=(M5 c r q).length) (x:=N5 c r q) (by rw[nA];omega);refine⟨c',γ',fun n m hm=>?_⟩;obtain⟨m,rfl⟩:=qNz m (by omega);have ih:=ih n m (by omega);generalize M5 c r c.beach.places.toNat=RF at ih|-;generalize M5 c r q=R at ih happ|-;generalize DP DQ ((BU c.beach).map fun t=>(CJ c.beach c.plan t r q).calm)=B1 at *;generalize DP DQ ((BU c.beach).map fun t=>(CJ c.beach c.plan t r q).good)=B2 at *;generalize N5 c r q=S at *;subst eS;generalize BU c.beach=T at *;rw[AB];simp only[AD,AC,FW]at qB ih|-;simp[AJ]at ih;simp[hq',hw,hcc,qB,happ,AJ,AL,FW,A3,C0,ih,K1,K2,K3,GU,GV,IB]
theorem A5L(c:AV)(hc:B5 c)(hp:FP c.beach c.plan):∀(d r cc γ:Nat),r+d=c.beach.rows.toNat->∃fr c' γ',BC fr 4=some (true,pv 47 γ' ((HQ c c.beach.rows.toNat).map AL))/\∀n m,d<m->BF (AE cg ann kn (n+3600) 49) aC (ann 49 (BW aC)) m ⟨cc,[(1,true,.ptr 0 1 0 0),(3,true,.list false ((BU c.beach).map AL)),(4,true,pv 47 γ ((HQ c r).map AL)),(5,true,i r)],⟨[],(1,0,.box (AD c))::pl 47 γ 22 ((HQ c r).map AL)⟩⟩ =
  some (.exit 0,⟨c',fr,⟨[],(1,0,.box (AD c))::pl 47 γ' 22 ((HQ c c.beach.rows.toNat).map AL)⟩⟩)
 |0,r,cc,γ,hd=>by
  have hro:=hc.be.ro;have hr:r=c.beach.rows.toNat:=by omega
  have hr':¬(r:Int)<c.beach.rows:=by omega
  rw[<-hr];generalize BU c.beach=T;refine⟨?fr,cc,γ,?g1,fun n m hm=>?g2⟩;case g2=>
   obtain⟨m,rfl⟩:=qNz m (by omega)
   rw[AB]
   simp[AD,hr']
   rfl
  case g1=>simp
 |d+1,r,cc,γ,hd=>by
  have hro:=hc.be.ro;have hpl:=hc.be.pl;have hw:=BM (k:=r) (by omega);have hr':(r:Int)<c.beach.rows:=by omega
  obtain⟨c1,γ1,q⟩:=A5K c hc hp r hr' γ ((HQ c r).map AL) c.beach.places.toNat 0 cc 0 (by omega);have q:=fun n m=>q n (m+100) (by omega);obtain⟨fr,c',γ',e1,ih⟩:=A5L c hc hp d (r+1) (c1+1) c1 (by omega);rw[sV]at ih;have h0:M5 c r 0=[]:=rfl;rw[h0]at q;have happ:=ATH (k:=(HQ c r).length) (x:=M5 c r c.beach.places.toNat) (by rw[gB];omega);have hne:M5 c r c.beach.places.toNat≠[]:=by intro e;have:=congrArg List.length e;rw[nA]at this;simp at this;omega
  refine⟨fr,c',γ',e1,fun n m hm=>?_⟩;obtain⟨m,rfl⟩:=qNz m (by omega);have ih:=ih n m (by omega);generalize HQ c c.beach.rows.toNat=FF at ih|-;generalize M5 c r c.beach.places.toNat=RR at ih q happ hne;generalize BU c.beach=T at *;obtain⟨y,RR,rfl⟩:=bc hne;have htl:∀o,FB 0 43 o (pl 47 γ 22 ((HQ c r).map AL))=pl 47 γ 22 ((HQ c r).map AL):=fun o=>W8 (by decide) _ _ _ (by simp[AL,AJ]);have hsl:sl ([i y]::RR.map AJ)=.list false ([i y]::RR.map AJ):=rfl;rw[AB];simp only[AD]at ih q|-;simp[AL,AJ]at ih q;have happ:B9 cg 22 (HQ c r).length [[V.list false ([i y]::RR.map AJ)]]=true:=happ;simp[hr',hw,AL,AJ,q,ih,happ,htl,hsl,K1,K2,K3,GU,GV,IB];try exact ih
theorem ATI(n:Nat)(c:AV)(hc:B5 c):A2 cg kn (AE cg ann kn (n+3800)) 35 [.agg (AD c)]=some (GW (FC c)):=by
 rw[AO rfl,AP Tryz.func35 b35 rfl (by simp[AD,AR,A4,AS,AJ,AL,AF])];have hro:=hc.be.ro;have hp:=xU hc.pl;have qt:=fun n=>gC n c.beach hc.be;rw[slX hc.tr]at qt;obtain⟨fr,c',γ',e1,q⟩:=A5L c hc hp c.beach.rows.toNat 0 1 0 (by omega);have q:=fun n m=>q n (m+100) (by omega);have h0:HQ c 0=[]:=rfl;rw[h0]at q;have hne:HQ c c.beach.rows.toNat≠[]:=fun e=>by have:=congrArg List.length e;rw[gB]at this;simp at this;omega
 have hF:FC c=HQ c c.beach.rows.toNat:=rfl;rw[hF];generalize HQ c c.beach.rows.toNat=F at *;generalize BU c.beach=T at *;simp only[AD,AC]at q qt|-;simp at q;simp[c35,AG,AJ,AL,AF,q,qt,e1];obtain⟨y,F,rfl⟩:=bc hne;rfl
end Go.Proofs.Tryz.Op
