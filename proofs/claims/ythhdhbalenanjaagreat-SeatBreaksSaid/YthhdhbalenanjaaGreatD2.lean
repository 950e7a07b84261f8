/- Contracts of the reference: Enough, IsAllowed. No condition but a valid case, sure hours for each place. -/
import Derived.Test.YthhdhbalenanjaaGreatA2
import Derived.Test.YthhdhbalenanjaaGreatEj
open Go.Proofs.Tryz renaming prog->ck
open List renaming getElem?_eq_getElem->bj,getD_eq_getElem?_getD->bk,getElem_mem->bq,range->bx,exists_cons_of_ne_nil->bz,length_range->bc,range_succ->bg,getElem?_range->bh,getElem?_map->bm,mem_map->bp
open Int renaming toNat_natCast->bw,natCast_add->bf,add_zero->bn
open Option renaming getD_some->bb,map_some->cj
set_option maxRecDepth 100000
set_option linter.unusedSimpArgs false
open Go Go.Pg Go.Proofs Go.Wind
namespace Go.Proofs.Tryz.Op
structure LM(c:AM)(s:List (List Int)):Prop where
 ln:s.length=c.beach.rows.toNat
 rw':∀l∈s,l.length=c.beach.places.toNat
 bd:∀l∈s,∀x∈l,0<=x/\x<=5
theorem ZY{c:AM}(hc:BQ c):LM c (EA c) where
 ln:=by simp[EA]
 rw':=fun l hl=>by simp only[EA,bp,List.mem_range]at hl;obtain⟨r,_,rfl⟩:=hl;simp
 bd:=fun l hl x hx=>by simp only[EA,bp,List.mem_range]at hl;obtain⟨r,_,rfl⟩:=hl;obtain⟨p,_,rfl⟩:=bp.1 hx;exact mU hc r p
theorem nC{c:AM}{s:List (List Int)}(_:LM c s){r p:Nat}(hr:r<s.length)(hp:p<(s[r]).length):C9 s (r:Int) (p:Int)=(s[r])[p]:=by unfold C9;rw[bk,bk,bw,bw,bj hr];simp only[bb,bj hp]
theorem A3T(c:AM)(hc:BQ c)(s:List (List Int))(hs:LM c s)(f r p:Nat)(z:Int)(hf:f<c.fams.length)(hz:0<=z/\z<=4)(hr:(r:Int)<c.beach.rows)(hp:(p:Int)+z<=c.beach.places):∀(d k:Nat),k+d=z.toNat->∃fr,∀n m,d<m->A9 (AE ck ann kn (n+300) 35) aF (ann 35 (BV aF)) m ⟨3,[(1,true,FI s),(4,true,.ptr 0 4 0 0),(6,true,.ptr 0 6 1 0),(7,true,.ptr 0 7 2 0),(9,true,i k)],⟨[],[(4,0,.box (AD c)),(6,1,.box (A4 (f,z))),(7,2,.box (AH ((r:Int),(p:Int))))]⟩⟩ =
  if ((bx z.toNat).drop k).all (fun q=>decide ((EC c f).good<=C9 s (r:Int) ((p:Int)+(q:Int))))=true then some (.exit 0,⟨3,fr,⟨[],[(4,0,.box (AD c)),(6,1,.box (A4 (f,z))),(7,2,.box (AH ((r:Int),(p:Int))))]⟩⟩) else some (.ret,⟨3,[(8,true,.bool false)],⟨[],[]⟩⟩)
 |0,k,hd=>by
  obtain rfl:k=z.toNat:=by omega
  have hz2:((z.toNat:Nat):Int)=z:=by omega
  rw[List.drop_eq_nil_of_le (by rw[bc];omega),hz2];refine⟨?fr,fun n m hm=>?g9⟩;case g9=>
   obtain⟨m,rfl⟩:=qNz m (by omega)
   rw[AB]
   simp[AD,A4,AH]
   rfl
 |d+1,k,hd=>by
  have hpl:=hc.be.pl;have hro:=hc.be.ro;have hlt:(k:Int)<z:=by omega
  have hw:=BH (k:=k) (by omega);have hrs:r<s.length:=by rw[hs.ln];omega
  have hrow:=hs.rw' _ (bq hrs);have hpk:p+k<(s[r]).length:=by omega
  have hwp:IntKind.i64.wrap ((p:Int)+(k:Int))=(p:Int)+(k:Int):=AX (by omega) (by omega);have hg:=nC hs hrs hpk;have hgo:=bj hpk;have e1:((p+k:Nat):Int)=(p:Int)+(k:Int):=by omega
  rw[e1]at hg;have hfm:EC c f=c.fams[f]:=by simp[EC,bj hf]
  have hp0:(0:Int)<=(p:Int)+(k:Int):=by omega
  have hp1:(p:Int)+(k:Int)<((s[r]).length:Int):=by omega
  have hp2:((p:Int)+(k:Int)).toNat=p+k:=by omega
  obtain⟨fr,ih⟩:=A3T c hc s hs f r p z hf hz hr hp d (k+1) (by omega);refine⟨fr,fun n m hm=>?_⟩;obtain⟨m,rfl⟩:=qNz m (by omega);have ih:=ih n m (by omega);rw[List.drop_eq_getElem_cons (by rw[bc];omega),List.all_cons,List.getElem_range,hg,hfm];rw[hfm]at ih;generalize ((bx z.toNat).drop (k+1)).all (fun q=>decide ((c.fams[f]).good<=C9 s (r:Int) ((p:Int)+(q:Int))))=zz at ih|-;rw[AB];simp only[AD,A4,AH]at ih|-;by_cases hb:(c.fams[f]).good<=(s[r])[p+k]
  ·have hb2:¬(s[r])[p+k]<(c.fams[f]).good:=by omega
   cases zz<;>(simp at ih;simp[hlt,hw,hrs,hpk,hwp,hp0,hp1,hp2,hf,hb,hb2,AY,AW,AS,ih])
  ·have hb2:(s[r])[p+k]<(c.fams[f]).good:=by omega
   simp[hlt,hrs,hpk,hwp,hp0,hp1,hp2,hf,hb,hb2,AY,AW,AS]
theorem ALA(n:Nat)(c:AM)(hc:BQ c)(s:List (List Int))(hs:LM c s)(x:Sp)(hx:D9 c x=true)(hf:x.fam<c.fams.length)(hz:0<=x.size/\x.size<=4):AZ ck kn (AE ck ann kn (n+400)) 88 [.agg (AD c),FI s,.agg (A4 (tD x)),.agg (AH (spt x))]=some (.bool (BF c s x).enough):=by obtain⟨f,z,r,p⟩:=x;obtain⟨g1,g2,g3,g4⟩:=P4 hx;simp only at g1 g2 g3 g4 hf hz;obtain⟨r,rfl⟩:∃k:Nat,r=k:=⟨r.toNat,by omega⟩;obtain⟨p,rfl⟩:∃k:Nat,p=k:=⟨p.toNat,by omega⟩;obtain⟨fr,q⟩:=A3T c hc s hs f r p z hf hz g2 g4 z.toNat 0 (by omega);have q:=fun n m=>q n (m+101) (by omega);rw[AN rfl,AO Tryz.func88 b88 rfl (by simp[AD,AH,AR,A7,AS,A4])];rw[List.drop_zero,show(bx z.toNat).all (fun q=>decide ((EC c f).good<=C9 s (r:Int) ((p:Int)+(q:Int))))=(BF c s ⟨f,z,(r:Int),(p:Int)⟩).enough from rfl]at q;generalize (BF c s ⟨f,z,(r:Int),(p:Int)⟩).enough=zz at *;simp only[AD,A4,AH,tD,spt]at q|-;cases zz<;>(simp at q;simp[c88,AF,q])
theorem AEG(n:Nat)(c:AM)(hl:c.fams.length<=30):AZ ck kn (AE ck ann kn (n+200)) 26 [.agg (AD c),i 0]=some (sl ((AP c []).map A4)):=by
 have h:JZ c 0=AP c []:=by
  have:∀N,G4 0 N=[]:=fun N=>by unfold G4;simp
  unfold JZ;rw[this]
 rw[<-h];exact AEF n c hl 0
def Y4(c:AM)(s:List (List Int))(G:List (Nat×Int))(ss:List (Int×Int)):Bool:=L6 c G ss&&(bx ss.length).all fun k=>(BF c s (AQ G ss k)).enough
theorem XU{c:AM}(hc:BQ c){s:List (List Int)}{ss:List (Int×Int)}:Y4 c s (AP c []) ss=HG c s ss:=by
 unfold Y4 HG;rw[jW hc];cases hs:FP c ss with
 |false=>rfl
 |true=>
  have hl:=(AK0 hc hs).1
  have hgl:=ED c
  have e:CJ c ss=(bx ss.length).map (AQ (AP c []) ss):=by
   refine RO (by omega) (by rw[show(CJ c ss).length=c.fams.length from FJ hl,hl]) fun j h1=>?_;have hj:j<c.fams.length:=by rw[<-show(CJ c ss).length=c.fams.length from FJ hl];exact h1
   have hjs:j<ss.length:=by omega
   have e:=KA (k:=0) (fs:=c.fams) (ss:=ss) j hj hjs h1;rw[Nat.zero_add]at e;refine e.trans ?_;rw[II];simp only[AQ,bk,bm,bh hj,bj hjs,cj,bb,EC,bj hj]
  rw[V7,e]
  simp[List.all_map,Function.comp_def]
theorem IZ{G:List (Nat×Int)}{ss:List (Int×Int)}{k:Nat}(h1:k<G.length)(h2:k<ss.length):AQ G ss k=⟨G[k].1,G[k].2,ss[k].1,ss[k].2⟩:=by simp[AQ,bk,bj h1,bj h2]
def RP(s:List (List Int))(x:Sp)(n:Nat):Int:=EX (fun p=>C9 s x.row (x.place+(p:Int))) n
def RQ(c:AM)(x:Sp)(n:Nat):Int:=EX (fun p=>if JY c x.row (x.place+(p:Int))=true then 0 else 1) n
def S4(s:List (List Int))(G:List (Nat×Int))(ss:List (Int×Int))(n:Nat):Int:=EX (fun k=>RP s (AQ G ss k) (AQ G ss k).size.toNat) n
def S5(c:AM)(G:List (Nat×Int))(ss:List (Int×Int))(n:Nat):Int:=EX (fun k=>RQ c (AQ G ss k) (AQ G ss k).size.toNat) n
theorem S6{c:AM}{x:Sp}(hx:D9 c x=true):∃r p:Nat,x.row=r/\x.place=p/\(r:Int)<c.beach.rows/\(p:Int)+x.size<=c.beach.places:=by obtain⟨g1,g2,g3,g4⟩:=P4 hx;exact⟨x.row.toNat,x.place.toNat,by omega,by omega,by omega,by omega⟩
theorem xA{c:AM}{s:List (List Int)}(hs:LM c s){r p:Nat}(hr:(r:Int)<c.beach.rows)(hp:(p:Int)<c.beach.places):∃(h1:r<s.length) (h2:p<(s[r]).length),C9 s (r:Int) (p:Int)=(s[r])[p]/\0<=(s[r])[p]/\(s[r])[p]<=5:=by
 have h1:r<s.length:=by rw[hs.ln];omega
 have h2:p<(s[r]).length:=by rw[hs.rw' _ (bq h1)];omega
 exact⟨h1,h2,nC hs h1 h2,hs.bd _ (bq h1) _ (bq h2)⟩
theorem AEH{c:AM}(hc:BQ c){r p:Nat}(hr:(r:Int)<c.beach.rows)(hp:(p:Int)<c.beach.places):∃(h1:r<c.chairs.length) (h2:p<(c.chairs[r]).length),JY c (r:Int) (p:Int)=(c.chairs[r])[p]:=by
 have h1:r<c.chairs.length:=by have:=hc.ch;omega
 have h2:p<(c.chairs[r]).length:=by have:=hc.cr _ (bq h1);omega
 refine⟨h1,h2,?_⟩;unfold JY;rw[bk,bk,bw,bw,bj h1];simp only[bb,bj h2]
theorem xB{c:AM}{s:List (List Int)}(hs:LM c s){x:Sp}(hx:D9 c x=true){n:Nat}(hn:(n:Int)<=x.size):0<=RP s x n/\RP s x n<=n*5:=by obtain⟨r,p,e1,e2,h1,h2⟩:=S6 hx;refine M7 fun q hq=>?_;rw[e1,e2,<-bf];obtain⟨_,_,e,b1,b2⟩:=xA hs h1 (p:=p+q) (by omega);rw[e];exact⟨b1,b2⟩
theorem xC(c:AM)(x:Sp)(n:Nat):0<=RQ c x n/\RQ c x n<=n*1:=M7 fun q _=>by split<;>decide
theorem xD{c:AM}{s:List (List Int)}(hs:LM c s){G:List (Nat×Int)}{ss:List (Int×Int)}(hf:∀g∈G,0<=g.2/\g.2<=4)(hl:ss.length<=G.length)(hfit:∀k,k<ss.length->D9 c (AQ G ss k)=true){n:Nat}(hn:n<=ss.length):0<=S4 s G ss n/\S4 s G ss n<=n*20:=by
 refine M7 fun k hk=>?_;have h4:=hf _ (bq (show k<G.length by omega));have e:(AQ G ss k).size=G[k].2:=by rw[IZ (by omega) (by omega)]
 have:=xB hs (hfit k (by omega)) (n:=(AQ G ss k).size.toNat) (by omega);omega
theorem xE{c:AM}{G:List (Nat×Int)}{ss:List (Int×Int)}(hf:∀g∈G,0<=g.2/\g.2<=4)(hl:ss.length<=G.length){n:Nat}(hn:n<=ss.length):0<=S5 c G ss n/\S5 c G ss n<=n*4:=by
 refine M7 fun k hk=>?_;have h4:=hf _ (bq (show k<G.length by omega));have e:(AQ G ss k).size=G[k].2:=by rw[IZ (by omega) (by omega)]
 have:=xC c (AQ G ss k) (AQ G ss k).size.toNat;omega
section
variable (c:AM)(hc:BQ c)(s:List (List Int))(hs:LM c s)(G:List (Nat×Int))(ss:List (Int×Int))(hf:∀g∈G,g.1<c.fams.length/\0<=g.2/\g.2<=4)(hl:ss.length<=G.length)(hl2:ss.length<=100)(hfit:∀k,k<ss.length->D9 c (AQ G ss k)=true)
include hc hs hf hl hl2 hfit
omit hl2 in
theorem A3U(k:Nat)(hk:k<ss.length)(a:Int)(ha:0<=a/\a<=2000):∀(d q:Nat),q+d=(AQ G ss k).size.toNat->∃fr,A3 fr 0=some (true,FI s)/\A3 fr 1=some (true,.list false (G.map A4))/\A3 fr 2=some (true,.list false (ss.map AH))/\A3 fr 7=some (true,i (a+RP s (AQ G ss k) (AQ G ss k).size.toNat))/\A3 fr 8=some (true,i k) /\
  ∀n m,d<m->A9 (AE ck ann kn (n+100) 45) aG (ann 45 (BV aG)) m ⟨0,[(0,true,FI s),(1,true,.list false (G.map A4)),(2,true,.list false (ss.map AH)),(7,true,i (a+RP s (AQ G ss k) q)),(8,true,i k),(9,true,i q)],⟨[],[]⟩⟩=some (.exit 2,⟨0,fr,⟨[],[]⟩⟩)
 |0,q,hd=>by
  obtain rfl:q=(AQ G ss k).size.toNat:=by omega
  have hkG:k<G.length:=by omega
  have e:=IZ hkG hk;have h4:=hf _ (bq hkG);have ez:(((AQ G ss k).size.toNat:Nat):Int)=G[k].2:=by rw[e];simp only;omega
  have hnl:¬(((AQ G ss k).size.toNat:Nat):Int)<G[k].2:=by omega
  generalize a+RP s (AQ G ss k) (AQ G ss k).size.toNat=A at *;generalize (AQ G ss k).size.toNat=z at *;refine⟨?fr,?g1,?g2,?g3,?g4,?g5,fun n m hm=>?g9⟩;case g9=>
   obtain⟨m,rfl⟩:=qNz m (by omega)
   rw[AB]
   simp[hkG,A4,hnl]
   rfl
  all_goals simp
 |d+1,q,hd=>by
  have hro:=hc.be.ro;have hpl:=hc.be.pl;have hkG:k<G.length:=by omega
  have e:=IZ hkG hk;have h4:=hf _ (bq hkG);have hql:(q:Int)<G[k].2:=by
   have:(AQ G ss k).size=G[k].2:=by rw[e]
   omega
  have hw:=BH (k:=q) (by omega);obtain⟨r,p,e1,e2,h1,h2⟩:=S6 (hfit k hk);have e3:(AQ G ss k).size=G[k].2:=by rw[e]
  obtain⟨g1,g2,g3,b1,b2⟩:=xA hs h1 (p:=p+q) (by omega);have e4:ss[k].1=(r:Int):=by rw[<-e1,e]
  have e5:ss[k].2=(p:Int):=by rw[<-e2,e]
  have hgo:=bj g2;have hwp:IntKind.i64.wrap ((p:Int)+(q:Int))=(p:Int)+(q:Int):=AX (by omega) (by omega);have hp0:(0:Int)<=(p:Int)+(q:Int):=by omega
  have hp1:(p:Int)+(q:Int)<((s[r]).length:Int):=by omega
  have hp2:((p:Int)+(q:Int)).toNat=p+q:=by omega
  have hB:=xB hs (hfit k hk) (n:=q) (by omega);obtain⟨fr,c0,c1,c2,c7,c8,ih⟩:=A3U k hk a ha d (q+1) (by omega);refine⟨fr,c0,c1,c2,c7,c8,fun n m hm=>?_⟩;obtain⟨m,rfl⟩:=qNz m (by omega);have ih:=ih n m (by omega);have hst:RP s (AQ G ss k) (q+1)=RP s (AQ G ss k) q+(s[r])[p+q]:=by show RP s (AQ G ss k) q+C9 s (AQ G ss k).row ((AQ G ss k).place+(q:Int))=_;rw[e1,e2,<-bf,g3]
  have hwa:IntKind.i64.wrap (a+RP s (AQ G ss k) q+(s[r])[p+q])=a+(RP s (AQ G ss k) q+(s[r])[p+q]):=by rw[AX (by omega) (by omega)];omega
  rw[hst]at ih;generalize RP s (AQ G ss k) q=A at *;rw[AB];simp at ih;simp[hk,hkG,hql,hw,g1,g2,e4,e5,hwp,hp0,hp1,hp2,hwa,AY,AW,A4,AH,ih]
theorem A3V:∀(d k:Nat),k+d=ss.length->∃fr,A3 fr 7=some (true,i (S4 s G ss ss.length)) /\
  ∀n m,d<m->A9 (AE ck ann kn (n+300) 45) aH (ann 45 (BV aH)) m ⟨0,[(0,true,FI s),(1,true,.list false (G.map A4)),(2,true,.list false (ss.map AH)),(7,true,i (S4 s G ss k)),(8,true,i k)],⟨[],[]⟩⟩=some (.exit 0,⟨0,fr,⟨[],[]⟩⟩)
 |0,k,hd=>by
  obtain rfl:k=ss.length:=by omega
  generalize S4 s G ss ss.length=A at *;refine⟨?fr,?g1,fun n m hm=>?g9⟩;case g9=>
   obtain⟨m,rfl⟩:=qNz m (by omega)
   rw[AB]
   simp
   rfl
  all_goals simp
 |d+1,k,hd=>by
  have hk:k<ss.length:=by omega
  have hkG:k<G.length:=by omega
  have hw:=BH (k:=k) (by omega);have hB:=xD hs (fun g hg=>(hf g hg).2) hl hfit (n:=k) (by omega);obtain⟨f0,b0,b1,b2,b7,b8,qi⟩:=A3U c hc s hs G ss hf hl hfit k hk (S4 s G ss k) (by omega) (AQ G ss k).size.toNat 0 (by omega);have h4:=hf _ (bq hkG);have e3:(AQ G ss k).size=G[k].2:=by rw[IZ hkG hk]
  have qi:=fun n m=>qi n (m+100) (by omega);rw[show RP s (AQ G ss k) 0=0 from rfl,bn]at qi;obtain⟨fr,c7,ih⟩:=A3V d (k+1) (by omega);refine⟨fr,c7,fun n m hm=>?_⟩;obtain⟨m,rfl⟩:=qNz m (by omega);have ih:=ih n m (by omega);have hst:S4 s G ss (k+1)=S4 s G ss k+RP s (AQ G ss k) (AQ G ss k).size.toNat:=rfl;rw[hst]at ih;generalize S4 s G ss k=A at *;generalize RP s (AQ G ss k) (AQ G ss k).size.toNat=B at *;rw[AB];simp at ih qi;simp[hk,hw,qi,b0,b1,b2,b7,b8,ih]
theorem A3W(n:Nat):AZ ck kn (AE ck ann kn (n+500)) 37 [FI s,.list false (G.map A4),.list false (ss.map AH)]=some (i (S4 s G ss ss.length)):=by rw[AN rfl,AO Tryz.func37 b37 rfl (by simp[A4])];obtain⟨fr,e,q⟩:=A3V c hc s hs G ss hf hl hl2 hfit ss.length 0 (by omega);have q:=fun n m=>q n (m+101) (by omega);rw[show S4 s G ss 0=0 from rfl]at q;generalize S4 s G ss ss.length=A at *;simp at q;simp[c37,AF,q,e]
omit hs
omit hl2 in
theorem A3X(k:Nat)(hk:k<ss.length)(a:Int)(ha:0<=a/\a<=2000):∀(d q:Nat),q+d=(AQ G ss k).size.toNat->∃fr,A3 fr 1=some (true,.list false (G.map A4))/\A3 fr 2=some (true,.list false (ss.map AH))/\A3 fr 3=some (true,.ptr 0 3 0 0)/\A3 fr 7=some (true,i (a+RQ c (AQ G ss k) (AQ G ss k).size.toNat))/\A3 fr 8=some (true,i k) /\
  ∀n m,d<m->A9 (AE ck ann kn (n+100) 47) aI (ann 47 (BV aI)) m ⟨1,[(1,true,.list false (G.map A4)),(2,true,.list false (ss.map AH)),(3,true,.ptr 0 3 0 0),(7,true,i (a+RQ c (AQ G ss k) q)),(8,true,i k),(9,true,i q)],⟨[],[(3,0,.box (AD c))]⟩⟩=some (.exit 2,⟨1,fr,⟨[],[(3,0,.box (AD c))]⟩⟩)
 |0,q,hd=>by
  obtain rfl:q=(AQ G ss k).size.toNat:=by omega
  have hkG:k<G.length:=by omega
  have e:=IZ hkG hk;have h4:=hf _ (bq hkG);have ez:(((AQ G ss k).size.toNat:Nat):Int)=G[k].2:=by rw[e];simp only;omega
  have hnl:¬(((AQ G ss k).size.toNat:Nat):Int)<G[k].2:=by omega
  generalize a+RQ c (AQ G ss k) (AQ G ss k).size.toNat=A at *;generalize (AQ G ss k).size.toNat=z at *;refine⟨?fr,?g1,?g2,?g3,?g4,?g5,fun n m hm=>?g9⟩;case g9=>
   obtain⟨m,rfl⟩:=qNz m (by omega)
   rw[AB]
   simp[AD,hkG,A4,hnl]
   rfl
  all_goals simp
 |d+1,q,hd=>by
  have hro:=hc.be.ro;have hpl:=hc.be.pl;have hkG:k<G.length:=by omega
  have e:=IZ hkG hk;have h4:=hf _ (bq hkG);have hql:(q:Int)<G[k].2:=by
   have:(AQ G ss k).size=G[k].2:=by rw[e]
   omega
  have hw:=BH (k:=q) (by omega);obtain⟨r,p,e1,e2,h1,h2⟩:=S6 (hfit k hk);have e3:(AQ G ss k).size=G[k].2:=by rw[e]
  obtain⟨g1,g2,g3⟩:=AEH hc h1 (p:=p+q) (by omega);have e4:ss[k].1=(r:Int):=by rw[<-e1,e]
  have e5:ss[k].2=(p:Int):=by rw[<-e2,e]
  have hwp:IntKind.i64.wrap ((p:Int)+(q:Int))=(p:Int)+(q:Int):=AX (by omega) (by omega);have hp0:(0:Int)<=(p:Int)+(q:Int):=by omega
  have hp1:(p:Int)+(q:Int)<((c.chairs[r]).length:Int):=by omega
  have hp2:((p:Int)+(q:Int)).toNat=p+q:=by omega
  have hB:=xC c (AQ G ss k) q;obtain⟨fr,c1,c2,c3,c7,c8,ih⟩:=A3X k hk a ha d (q+1) (by omega);refine⟨fr,c1,c2,c3,c7,c8,fun n m hm=>?_⟩;obtain⟨m,rfl⟩:=qNz m (by omega);have ih:=ih n m (by omega);have hst:RQ c (AQ G ss k) (q+1)=RQ c (AQ G ss k) q+(if (c.chairs[r])[p+q]=true then 0 else 1):=by show RQ c (AQ G ss k) q+(if JY c (AQ G ss k).row ((AQ G ss k).place+(q:Int))=true then 0 else 1)=_;rw[e1,e2,<-bf,g3]
  have hwa:IntKind.i64.wrap (a+RQ c (AQ G ss k) q+1)=a+(RQ c (AQ G ss k) q+1):=by rw[AX (by omega) (by omega)];omega
  rw[hst]at ih;generalize RQ c (AQ G ss k) q=A at *;rw[AB];simp only[AD]at ih|-;cases hz:(c.chairs[r])[p+q]<;>rw[hz]at ih
  ·simp only[Bool.false_eq_true,if_false]at ih;simp at ih;simp[hk,hkG,hql,hw,g1,g2,e4,e5,hwp,hp0,hp1,hp2,hwa,hz,A4,AH,AR,A7,ih]
  ·simp only[if_true,bn]at ih;simp at ih;simp[hk,hkG,hql,hw,g1,g2,e4,e5,hwp,hp0,hp1,hp2,hz,A4,AH,AR,A7,ih]
theorem A3Y:∀(d k:Nat),k+d=ss.length->∃fr,A3 fr 7=some (true,i (S5 c G ss ss.length)) /\
  ∀n m,d<m->A9 (AE ck ann kn (n+300) 47) aJ (ann 47 (BV aJ)) m ⟨1,[(1,true,.list false (G.map A4)),(2,true,.list false (ss.map AH)),(3,true,.ptr 0 3 0 0),(7,true,i (S5 c G ss k)),(8,true,i k)],⟨[],[(3,0,.box (AD c))]⟩⟩=some (.exit 0,⟨1,fr,⟨[],[(3,0,.box (AD c))]⟩⟩)
 |0,k,hd=>by
  obtain rfl:k=ss.length:=by omega
  generalize S5 c G ss ss.length=A at *;refine⟨?fr,?g1,fun n m hm=>?g9⟩;case g9=>
   obtain⟨m,rfl⟩:=qNz m (by omega)
   rw[AB]
   simp[AD]
   rfl
  all_goals simp
 |d+1,k,hd=>by
  have hk:k<ss.length:=by omega
  have hkG:k<G.length:=by omega
  have hw:=BH (k:=k) (by omega);have hB:=xE (c:=c) (ss:=ss) (fun g hg=>(hf g hg).2) hl (n:=k) (by omega);obtain⟨f0,b1,b2,b3,b7,b8,qi⟩:=A3X c hc G ss hf hl hfit k hk (S5 c G ss k) (by omega) (AQ G ss k).size.toNat 0 (by omega);have h4:=hf _ (bq hkG);have e3:(AQ G ss k).size=G[k].2:=by rw[IZ hkG hk]
  have qi:=fun n m=>qi n (m+100) (by omega);rw[show RQ c (AQ G ss k) 0=0 from rfl,bn]at qi;obtain⟨fr,c7,ih⟩:=A3Y d (k+1) (by omega);refine⟨fr,c7,fun n m hm=>?_⟩;obtain⟨m,rfl⟩:=qNz m (by omega);have ih:=ih n m (by omega);have hst:S5 c G ss (k+1)=S5 c G ss k+RQ c (AQ G ss k) (AQ G ss k).size.toNat:=rfl;rw[hst]at ih;generalize S5 c G ss k=A at *;generalize RQ c (AQ G ss k) (AQ G ss k).size.toNat=B at *;rw[AB];simp only[AD]at ih qi|-;simp at ih qi;simp[hk,hw,qi,b1,b2,b3,b7,b8,ih]
theorem AEI(n:Nat):AZ ck kn (AE ck ann kn (n+500)) 38 [.agg (AD c),.list false (G.map A4),.list false (ss.map AH)]=some (i (S5 c G ss ss.length)):=by rw[AN rfl,AO Tryz.func38 b38 rfl (by simp[AD,AR,A7,AS,A4])];obtain⟨fr,e,q⟩:=A3Y c hc G ss hf hl hl2 hfit ss.length 0 (by omega);have q:=fun n m=>q n (m+101) (by omega);rw[show S5 c G ss 0=0 from rfl]at q;generalize S5 c G ss ss.length=A at *;simp only[AD]at q|-;simp at q;simp[c38,AF,q,e]
end
theorem WD(f:Nat->Int):∀n,((bx n).map f).sum=EX f n
 |0=>rfl
 |n+1=>by rw[bg,List.map_append,List.sum_append,WD f n];simp[EX]
theorem nD{c:AM}{ss:List (Int×Int)}(hl:ss.length=c.fams.length):CJ c ss=(bx ss.length).map (AQ (AP c []) ss):=by
 have hgl:=ED c;refine RO (by omega) (by rw[show(CJ c ss).length=c.fams.length from FJ hl,hl]) fun j h1=>?_;have hj:j<c.fams.length:=by rw[<-show(CJ c ss).length=c.fams.length from FJ hl];exact h1
 have hjs:j<ss.length:=by omega
 have e:=KA (k:=0) (fs:=c.fams) (ss:=ss) j hj hjs h1;rw[Nat.zero_add]at e;refine e.trans ?_;rw[II];simp only[AQ,bk,bm,bh hj,bj hjs,cj,bb,EC,bj hj]
theorem ALB{c:AM}{s:List (List Int)}{ss:List (Int×Int)}(hl:ss.length=c.fams.length):(EJ c s (CJ c ss)).sun=S4 s (AP c []) ss ss.length/\(EJ c s (CJ c ss)).carried=S5 c (AP c []) ss ss.length:=by rw[V7,nD hl];simp only[List.map_map];exact⟨WD _ _,WD _ _⟩
theorem ZZ{c:AM}{ss:List (Int×Int)}(hs:FP c ss=true):∀x∈CJ c ss,D9 c x=true:=by simp only[FP,P3,Bool.and_eq_true,decide_eq_true_eq]at hs;exact OR c _ _ hs.2.1
theorem nE{c:AM}(hc:BQ c){ss:List (Int×Int)}(hs:FP c ss=true):EJ c (AV c) (CJ c ss)=EJ c (EA c) (CJ c ss):=AA1 (gD hc) (ZZ hs)
theorem RT{c:AM}(hc:BQ c)(ss:List (Int×Int)):HG c (AV c) ss=HG c (EA c) ss:=by
 unfold HG;cases hs:FP c ss with
 |false=>rfl
 |true=>rw[nE hc hs]
def L7(c:AM)(ss:List (Int×Int)):Int:=S4 (EA c) (AP c []) ss ss.length
def M3(c:AM)(ss:List (Int×Int)):Int:=S5 c (AP c []) ss ss.length
theorem AP3{c:AM}(hc:BQ c){ss:List (Int×Int)}(hs:FP c ss=true):(EJ c (AV c) (CJ c ss)).sun=L7 c ss/\(EJ c (AV c) (CJ c ss)).carried=M3 c ss:=by
 have hl:ss.length=c.fams.length:=by simp only[FP,Bool.and_eq_true,decide_eq_true_eq]at hs;exact hs.1
 rw[nE hc hs];exact ALB hl
theorem ALC{c:AM}(h0:DT c=0)(hn:GA c=none)(ss:List (Int×Int)):HG c (EA c) ss=false:=by
 cases h:HG c (EA c) ss with
 |false=>rfl
 |true=>
  rw[<-RT (F1 h0)]at h
  have hm:=jQ.2 (mV h)
  have:=AAZ.1 hn
  rw[this]at hm
  cases hm
theorem ALD{c:AM}(h0:DT c=0){q:List Sp×B5}(hb:GA c=some q){ss:List (Int×Int)}(ha:HG c (EA c) ss=true):L7 c ss<=q.2.sun/\(L7 c ss<q.2.sun\/q.2.carried<=M3 c ss):=by have hc:=F1 h0;rw[<-RT hc]at ha;obtain⟨b,t⟩:=q;obtain⟨_,_,h3⟩:=gC hb;have:=h3 _ (jQ.2 (mV ha));obtain⟨e1,e2⟩:=AP3 hc (P5.1 ha).1;unfold geS at this;rw[e1,e2]at this;simp only;omega
theorem ATE{k:Nat}{x:Int}(h:k<=10000):BZ ck 3 k [[i x]]=true:=by rw[BT (by simp) (by simp)];simp[maxLen];omega
theorem ATF{k:Nat}{x:List Int}(h:k<=10000):BZ ck 22 k [[li x]]=true:=by rw[BT (by simp) (by simp)];simp[maxLen];omega
theorem nF{b:AK}(hb:Valid b):(BK b).length<=1100:=by have h1:=hb.many;have h2:(BK b).length<=((bx (GB b.winds)).map (D4 b.winds)).length:=List.length_filter_le _ _;rw[List.length_map,bc]at h2;omega
def M4(c:AM)(r n:Nat):List Int:=(bx n).map (N5 c r)
theorem ABF(c:AM)(r n:Nat):M4 c r (n+1)=M4 c r n++[N5 c r n]:=by simp[M4,bg]
theorem nG(c:AM)(r n:Nat):(M4 c r n).length=n:=by simp[M4]
def HH(c:AM)(n:Nat):List (List Int):=(bx n).map fun r=>M4 c r c.beach.places.toNat
theorem tI(c:AM)(n:Nat):HH c (n+1)=HH c n++[M4 c n c.beach.places.toNat]:=by simp[HH,bg]
theorem gK(c:AM)(n:Nat):(HH c n).length=n:=by simp[HH]
theorem A3Z(c:AM)(hc:BQ c)(hp:FL c.beach c.plan)(r:Nat)(hr:(r:Int)<c.beach.rows)(γ4:Nat)(A:List (List V)):∀(d q cc γ:Nat),q+d=c.beach.places.toNat->∃c' γ',∀n m,d<m->A9 (AE ck ann kn (n+3400) 49) aS (ann 49 (BV aS)) m ⟨cc,[(1,true,.ptr 0 1 0 0),(3,true,.list false ((BK c.beach).map AY)),(4,true,pv 47 γ4 A),(5,true,i r),(6,true,pv 43 γ ((M4 c r q).map AW)),(7,true,i q)],⟨[],(1,0,.box (AD c))::(pl 43 γ 3 ((M4 c r q).map AW)++pl 47 γ4 22 A)⟩⟩ =
  some (.exit 2,⟨c',[(24,true,.bool false),(23,true,i c.beach.places),(22,true,.ptr 0 1 0 2),(21,true,.ptr 0 1 0 0),(20,true,i c.beach.places),(1,true,.ptr 0 1 0 0),(3,true,.list false ((BK c.beach).map AY)),(4,true,pv 47 γ4 A),(5,true,i r),(6,true,pv 43 γ' ((M4 c r c.beach.places.toNat).map AW)),(7,true,i c.beach.places)],⟨[],(1,0,.box (AD c))::(pl 43 γ' 3 ((M4 c r c.beach.places.toNat).map AW)++pl 47 γ4 22 A)⟩⟩)
 |0,q,cc,γ,hd=>by
  have hpl:=hc.be.pl;have hq:q=c.beach.places.toNat:=by omega
  have hq':c.beach.places=(q:Int):=by omega
  rw[<-hq];refine⟨cc,γ,fun n m hm=>?_⟩;obtain⟨m,rfl⟩:=qNz m (by omega);rw[AB];generalize M4 c r q=R;simp[AD,hq',KS,I3,H1,VP]
 |d+1,q,cc,γ,hd=>by
  have hpl:=hc.be.pl;have hro:=hc.be.ro;have hw:=BH (k:=q) (by omega);have hq':(q:Int)<c.beach.places:=by omega
  have hTl:=nF hc.be;have qB:=fun n=>AER n hc.be hp r q (by omega) (by omega) (BK c.beach) (fun t ht=>UK ht) hTl;have hcc:cc<cc+1+1:=by omega
  have eS:(DM DN ((BK c.beach).map fun t=>(CG c.beach c.plan t r q).good)).1=N5 c r q:=rfl;obtain⟨c',γ',ih⟩:=A3Z c hc hp r hr γ4 A d (q+1) (cc+1+1+1) (cc+1+1) (by omega);rw[ABF]at ih;have happ:=ATE (k:=(M4 c r q).length) (x:=N5 c r q) (by rw[nG];omega);refine⟨c',γ',fun n m hm=>?_⟩;obtain⟨m,rfl⟩:=qNz m (by omega);have ih:=ih n m (by omega);generalize M4 c r c.beach.places.toNat=RF at ih|-;generalize M4 c r q=R at ih happ|-;generalize DM DN ((BK c.beach).map fun t=>(CG c.beach c.plan t r q).calm)=B1 at *;generalize DM DN ((BK c.beach).map fun t=>(CG c.beach c.plan t r q).good)=B2 at *;generalize N5 c r q=S at *;subst eS;generalize BK c.beach=T at *;rw[AB];simp only[AD,AC,F0]at qB ih|-;simp[AW]at ih;simp[hq',hw,hcc,qB,happ,AW,ih,KS,I3,H1,VP]
theorem A30(c:AM)(hc:BQ c)(hp:FL c.beach c.plan):∀(d r cc γ:Nat),r+d=c.beach.rows.toNat->∃fr c' γ',A3 fr 4=some (true,pv 47 γ' ((HH c c.beach.rows.toNat).map AY))/\∀n m,d<m->A9 (AE ck ann kn (n+3600) 49) aT (ann 49 (BV aT)) m ⟨cc,[(1,true,.ptr 0 1 0 0),(3,true,.list false ((BK c.beach).map AY)),(4,true,pv 47 γ ((HH c r).map AY)),(5,true,i r)],⟨[],(1,0,.box (AD c))::pl 47 γ 22 ((HH c r).map AY)⟩⟩ =
  some (.exit 0,⟨c',fr,⟨[],(1,0,.box (AD c))::pl 47 γ' 22 ((HH c c.beach.rows.toNat).map AY)⟩⟩)
 |0,r,cc,γ,hd=>by
  have hro:=hc.be.ro;have hr:r=c.beach.rows.toNat:=by omega
  have hr':¬(r:Int)<c.beach.rows:=by omega
  rw[<-hr];generalize BK c.beach=T;refine⟨?fr,cc,γ,?g1,fun n m hm=>?g2⟩;case g2=>
   obtain⟨m,rfl⟩:=qNz m (by omega)
   rw[AB]
   simp[AD,hr']
   rfl
  case g1=>simp
 |d+1,r,cc,γ,hd=>by
  have hro:=hc.be.ro;have hpl:=hc.be.pl;have hw:=BH (k:=r) (by omega);have hr':(r:Int)<c.beach.rows:=by omega
  obtain⟨c1,γ1,q⟩:=A3Z c hc hp r hr' γ ((HH c r).map AY) c.beach.places.toNat 0 cc 0 (by omega);have q:=fun n m=>q n (m+100) (by omega);obtain⟨fr,c',γ',e1,ih⟩:=A30 c hc hp d (r+1) (c1+1) c1 (by omega);rw[tI]at ih;have h0:M4 c r 0=[]:=rfl;rw[h0]at q;have happ:=ATF (k:=(HH c r).length) (x:=M4 c r c.beach.places.toNat) (by rw[gK];omega);have hne:M4 c r c.beach.places.toNat≠[]:=by intro e;have:=congrArg List.length e;rw[nG]at this;simp at this;omega
  refine⟨fr,c',γ',e1,fun n m hm=>?_⟩;obtain⟨m,rfl⟩:=qNz m (by omega);have ih:=ih n m (by omega);generalize HH c c.beach.rows.toNat=FF at ih|-;generalize M4 c r c.beach.places.toNat=RR at ih q happ hne;generalize BK c.beach=T at *;obtain⟨y,RR,rfl⟩:=bz hne;have htl:∀o,FH 0 43 o (pl 47 γ 22 ((HH c r).map AY))=pl 47 γ 22 ((HH c r).map AY):=fun o=>XG (by decide) _ _ _ (by simp);have hsl:sl ([i y]::RR.map AW)=.list false ([i y]::RR.map AW):=rfl;rw[AB];simp only[AD]at ih q|-;simp[AY,AW]at ih q;have happ:BZ ck 22 (HH c r).length [[V.list false ([i y]::RR.map AW)]]=true:=happ;simp[hr',hw,AY,q,happ,htl,hsl,KS];try exact ih
theorem ATG(n:Nat)(c:AM)(hc:BQ c):AZ ck kn (AE ck ann kn (n+3800)) 35 [.agg (AD c)]=some (FI (EA c)):=by
 rw[AN rfl,AO Tryz.func35 b35 rfl (by simp[AD,AR,A7,AS])];have hro:=hc.be.ro;have hp:=yD hc.pl;have qt:=fun n=>gO n c.beach hc.be;rw[slX hc.tr]at qt;obtain⟨fr,c',γ',e1,q⟩:=A30 c hc hp c.beach.rows.toNat 0 1 0 (by omega);have q:=fun n m=>q n (m+100) (by omega);have h0:HH c 0=[]:=rfl;rw[h0]at q;have hne:HH c c.beach.rows.toNat≠[]:=fun e=>by have:=congrArg List.length e;rw[gK]at this;simp at this;omega
 have hF:EA c=HH c c.beach.rows.toNat:=rfl;rw[hF];generalize HH c c.beach.rows.toNat=F at *;generalize BK c.beach=T at *;simp only[AD,AC]at q qt|-;simp at q;simp[c35,AF,q,qt,e1];obtain⟨y,F,rfl⟩:=bz hne;rfl
end Go.Proofs.Tryz.Op
