/- Contracts of the reference: Enough, IsAllowed. No condition but a valid case, sure hours for each place. -/
import Derived.Test.YthhdhbalenanjaaGreatA2
import Derived.Test.YthhdhbalenanjaaGreatEj
open Go.Proofs.Tryz renaming prog->cg
open List renaming getElem?_eq_getElem->bj,getElem_mem->bk,getD_eq_getElem?_getD->bq,range->bx,length_range->bz,exists_cons_of_ne_nil->bc,drop_eq_getElem_cons->bf,mem_range->bg,drop_eq_nil_of_le->bm,range_succ->bp,mem_map->cj,getElem?_range->ck,getElem_range->cq,getElem?_map->cw
open Bool renaming and_eq_true->bw,true_and->cx
open Int renaming toNat_natCast->bb,natCast_add->bn,add_zero->cz
open Option renaming getD_some->bh,map_some->cd
set_option maxRecDepth 100000
set_option linter.unusedSimpArgs false
open Go Go.Pg Go.Proofs Go.Wind
namespace Go.Proofs.Tryz.Op
structure JJ(c:AQ)(s:List (List Int)):Prop where
 ln:s.length=c.beach.rows.toNat
 rw':∀l∈s,l.length=c.beach.places.toNat
 bd:∀l∈s,∀x∈l,0<=x/\x<=5
theorem KB{c:AQ}(hc:BN c):JJ c (CZ c) where
 ln:=by simp[CZ]
 rw':=fun l hl=>by simp only[CZ,cj,bg]at hl;obtain⟨r,_,rfl⟩:=hl;simp
 bd:=fun l hl x hx=>by simp only[CZ,cj,bg]at hl;obtain⟨r,_,rfl⟩:=hl;obtain⟨p,_,rfl⟩:=cj.1 hx;exact mM hc r p
theorem mV{c:AQ}{s:List (List Int)}(_:JJ c s){r p:Nat}(hr:r<s.length)(hp:p<(s[r]).length):DC s (r:Int) (p:Int)=(s[r])[p]:=by unfold DC;rw[bq,bq,bb,bb,bj hr];simp only[bh,bj hp]
theorem A3N(c:AQ)(hc:BN c)(s:List (List Int))(hs:JJ c s)(f r p:Nat)(z:Int)(hf:f<c.fams.length)(hz:0<=z/\z<=4)(hr:(r:Int)<c.beach.rows)(hp:(p:Int)+z<=c.beach.places):∀(d k:Nat),k+d=z.toNat->∃fr,∀n m,d<m->BA (AE cg ann kn (n+300) 35) Z3 (ann 35 (BU Z3)) m ⟨3,[(1,true,FO s),(4,true,.ptr 0 4 0 0),(6,true,.ptr 0 6 1 0),(7,true,.ptr 0 7 2 0),(9,true,i k)],⟨[],[(4,0,.box (AD c)),(6,1,.box (A2 (f,z))),(7,2,.box (AJ ((r:Int),(p:Int))))]⟩⟩ =
  if ((bx z.toNat).drop k).all (fun q=>decide ((ED c f).good<=DC s (r:Int) ((p:Int)+(q:Int))))=true then some (.exit 0,⟨3,fr,⟨[],[(4,0,.box (AD c)),(6,1,.box (A2 (f,z))),(7,2,.box (AJ ((r:Int),(p:Int))))]⟩⟩) else some (.ret,⟨3,[(8,true,.bool false)],⟨[],[]⟩⟩)
 |0,k,hd=>by
  obtain rfl:k=z.toNat:=by omega
  have hz2:((z.toNat:Nat):Int)=z:=by omega
  rw[bm (by rw[bz];omega),hz2];refine⟨?fr,fun n m hm=>?g9⟩;case g9=>
   obtain⟨m,rfl⟩:=qNz m (by omega)
   rw[AB]
   simp[AD,A2,AJ]
   rfl
 |d+1,k,hd=>by
  have hpl:=hc.be.pl;have hro:=hc.be.ro;have hlt:(k:Int)<z:=by omega
  have hw:=BJ (k:=k) (by omega);have hrs:r<s.length:=by rw[hs.ln];omega
  have hrow:=hs.rw' _ (bk hrs);have hpk:p+k<(s[r]).length:=by omega
  have hwp:IntKind.i64.wrap ((p:Int)+(k:Int))=(p:Int)+(k:Int):=AW (by omega) (by omega);have hg:=mV hs hrs hpk;have hgo:=bj hpk;have e1:((p+k:Nat):Int)=(p:Int)+(k:Int):=by omega
  rw[e1]at hg;have hfm:ED c f=c.fams[f]:=by simp[ED,bj hf]
  have hp0:(0:Int)<=(p:Int)+(k:Int):=by omega
  have hp1:(p:Int)+(k:Int)<((s[r]).length:Int):=by omega
  have hp2:((p:Int)+(k:Int)).toNat=p+k:=by omega
  obtain⟨fr,ih⟩:=A3N c hc s hs f r p z hf hz hr hp d (k+1) (by omega);refine⟨fr,fun n m hm=>?_⟩;obtain⟨m,rfl⟩:=qNz m (by omega);have ih:=ih n m (by omega);rw[bf (by rw[bz];omega),List.all_cons,cq,hg,hfm];rw[hfm]at ih;generalize ((bx z.toNat).drop (k+1)).all (fun q=>decide ((c.fams[f]).good<=DC s (r:Int) ((p:Int)+(q:Int))))=zz at ih|-;rw[AB];simp only[AD,A2,AJ]at ih|-;by_cases hb:(c.fams[f]).good<=(s[r])[p+k]
  ·have hb2:¬(s[r])[p+k]<(c.fams[f]).good:=by omega
   cases zz<;>(simp at ih;simp[hlt,hw,hrs,hpk,hwp,hp0,hp1,hp2,hf,hb,hb2,AZ,AX,AU,ih])
  ·have hb2:(s[r])[p+k]<(c.fams[f]).good:=by omega
   simp[hlt,hrs,hpk,hwp,hp0,hp1,hp2,hf,hb,hb2,AZ,AX,AU]
theorem wW(n:Nat)(c:AQ)(hc:BN c)(s:List (List Int))(hs:JJ c s)(x:Sp)(hx:C4 c x=true)(hf:x.fam<c.fams.length)(hz:0<=x.size/\x.size<=4):AY cg kn (AE cg ann kn (n+400)) 88 [.agg (AD c),FO s,.agg (A2 (sF x)),.agg (AJ (SO x))]=some (.bool (BF c s x).enough):=by obtain⟨f,z,r,p⟩:=x;obtain⟨g1,g2,g3,g4⟩:=P6 hx;simp only at g1 g2 g3 g4 hf hz;obtain⟨r,rfl⟩:∃k:Nat,r=k:=⟨r.toNat,by omega⟩;obtain⟨p,rfl⟩:∃k:Nat,p=k:=⟨p.toNat,by omega⟩;obtain⟨fr,q⟩:=A3N c hc s hs f r p z hf hz g2 g4 z.toNat 0 (by omega);have q:=fun n m=>q n (m+101) (by omega);rw[AN rfl,AO Tryz.func88 b88 rfl (by simp[AD,AJ,AS,A6,AU,A2])];rw[List.drop_zero,show(bx z.toNat).all (fun q=>decide ((ED c f).good<=DC s (r:Int) ((p:Int)+(q:Int))))=(BF c s ⟨f,z,(r:Int),(p:Int)⟩).enough from rfl]at q;generalize (BF c s ⟨f,z,(r:Int),(p:Int)⟩).enough=zz at *;simp only[AD,A2,AJ,sF,SO]at q|-;cases zz<;>(simp at q;simp[c88,AF,q])
theorem mW(n:Nat)(c:AQ)(hl:c.fams.length<=30):AY cg kn (AE cg ann kn (n+200)) 26 [.agg (AD c),i 0]=some (sl ((AK c []).map A2)):=by
 have h:JY c 0=AK c []:=by
  have:∀N,G4 0 N=[]:=fun N=>by unfold G4;simp
  unfold JY;rw[this]
 rw[<-h];exact AEC n c hl 0
def P8(c:AQ)(s:List (List Int))(G:List (Nat×Int))(ss:List (Int×Int)):Bool:=FS c G ss&&(bx ss.length).all fun k=>(BF c s (AR G ss k)).enough
theorem K5{c:AQ}(hc:BN c){s:List (List Int)}{ss:List (Int×Int)}:P8 c s (AK c []) ss=EX c s ss:=by
 unfold P8 EX;rw[jN hc];cases hs:D1 c ss with
 |false=>rfl
 |true=>
  have hl:=(M3 hc hs).1
  have hgl:=CL c
  have e:A5 c ss=(bx ss.length).map (AR (AK c []) ss):=by
   refine RP (by omega) (by rw[show(A5 c ss).length=c.fams.length from DL hl,hl]) fun j h1=>?_;have hj:j<c.fams.length:=by rw[<-show(A5 c ss).length=c.fams.length from DL hl];exact h1
   have hjs:j<ss.length:=by omega
   have e:=I0 (k:=0) (fs:=c.fams) (ss:=ss) j hj hjs h1;rw[Nat.zero_add]at e;refine e.trans ?_;rw[IG];simp only[AR,bq,cw,ck hj,bj hjs,cd,bh,ED,bj hj]
  rw[V3,e]
  simp[List.all_map,Function.comp_def]
theorem HH{G:List (Nat×Int)}{ss:List (Int×Int)}{k:Nat}(h1:k<G.length)(h2:k<ss.length):AR G ss k=⟨G[k].1,G[k].2,ss[k].1,ss[k].2⟩:=by simp[AR,bq,bj h1,bj h2]
theorem A3O(c:AQ)(hc:BN c)(s:List (List Int))(hs:JJ c s)(G:List (Nat×Int))(ss:List (Int×Int))(hG:G.length<=100)(hf:∀g∈G,g.1<c.fams.length/\0<=g.2/\g.2<=4)(hl:ss.length=G.length)(hfit:∀k,k<ss.length->C4 c (AR G ss k)=true):∀(d k:Nat),k+d=ss.length->∃fr,∀n m,d<m->BA (AE cg ann kn (n+500) 33) Z4 (ann 33 (BU Z4)) m ⟨1,[(1,true,FO s),(2,true,.list false (G.map A2)),(3,true,.list false (ss.map AJ)),(4,true,.ptr 0 4 0 0),(9,true,i k)],⟨[],[(4,0,.box (AD c))]⟩⟩ =
  if ((bx ss.length).drop k).all (fun k=>(BF c s (AR G ss k)).enough)=true then some (.exit 0,⟨1,fr,⟨[],[(4,0,.box (AD c))]⟩⟩) else some (.ret,⟨1,[(8,true,.bool false)],⟨[],[]⟩⟩)
 |0,k,hd=>by
  obtain rfl:k=ss.length:=by omega
  rw[bm (by rw[bz];omega)];refine⟨?fr,fun n m hm=>?g9⟩;case g9=>
   obtain⟨m,rfl⟩:=qNz m (by omega)
   rw[AB]
   simp[AD]
   rfl
 |d+1,k,hd=>by
  have hk:k<ss.length:=by omega
  have hkG:k<G.length:=by omega
  have hw:=BJ (k:=k) (by omega);have hx:=hfit k hk;have e:=HH hkG hk;have hfk:=hf _ (bk hkG);have qE:=fun n=>wW n c hc s hs (AR G ss k) hx (by rw[e];exact hfk.1) (by rw[e];exact hfk.2);have eg:A2 (sF (AR G ss k))=[i G[k].1,i G[k].2]:=by rw[e];rfl
  have es:AJ (SO (AR G ss k))=[i ss[k].1,i ss[k].2]:=by rw[e];rfl
  rw[eg,es]at qE;obtain⟨fr,ih⟩:=A3O c hc s hs G ss hG hf hl hfit d (k+1) (by omega);refine⟨fr,fun n m hm=>?_⟩;obtain⟨m,rfl⟩:=qNz m (by omega);have ih:=ih n m (by omega);rw[bf (by rw[bz];omega),List.all_cons,cq];generalize ((bx ss.length).drop (k+1)).all (fun k=>(BF c s (AR G ss k)).enough)=zz at ih|-;generalize (BF c s (AR G ss k)).enough=E at *;rw[AB];simp only[AD]at ih qE|-;cases E<;>cases zz<;>(simp at ih;simp[hk,hkG,hw,qE,AU,A2,AJ,AS,A6,ih])
theorem ZK(n:Nat)(c:AQ)(hc:BN c)(s:List (List Int))(hs:JJ c s)(G:List (Nat×Int))(ss:List (Int×Int))(hG:G.length<=100)(hf:∀g∈G,g.1<c.fams.length/\1<=g.2/\g.2<=4):AY cg kn (AE cg ann kn (n+1700)) 36 [.agg (AD c),FO s,.list false (G.map A2),.list false (ss.map AJ)]=some (.bool (P8 c s G ss)):=by
 have hro:=hc.be.ro;have hpl:=hc.be.pl;have hch:=hc.ch;have qI:=fun n=>sW n c (by omega) (by omega) (by omega) (fun l hl=>by have:=hc.cr l hl;omega) G hG ss (fun g hg=>by have:=hf g hg;omega);rw[AN rfl,AO Tryz.func36 b36 rfl (by simp[AD,AS,A6,AU,A2])];unfold P8;cases hS:FS c G ss with
 |false=>
  rw[hS]at qI
  simp only[AD]at qI|-
  simp[c36,AF,qI,AU,A2,AS,A6]
 |true=>
  rw[hS]at qI
  rw[cx]
  have hl:ss.length=G.length:=by simp only[FS,bw,decide_eq_true_eq]at hS;exact hS.1
  have hfit:∀k,k<ss.length->C4 c (AR G ss k)=true:=fun k hk=>by simp only[FS,bw,decide_eq_true_eq,List.all_eq_true,bg]at hS;have h:=hS.2.2 k hk;simp only[FQ,bw]at h;exact h.1
  obtain⟨fr,q⟩:=A3O c hc s hs G ss hG (fun g hg=>by have:=hf g hg;omega) hl hfit ss.length 0 (by omega)
  have q:=fun n m=>q n (m+101) (by omega)
  rw[List.drop_zero]at q
  generalize (bx ss.length).all (fun k=>(BF c s (AR G ss k)).enough)=zz at *
  simp only[AD]at qI q|-
  cases zz<;>(simp at q;simp[c36,AF,qI,q,AU,A2,AS,A6])
def RT(s:List (List Int))(x:Sp)(n:Nat):Int:=EY (fun p=>DC s x.row (x.place+(p:Int))) n
def RU(c:AQ)(x:Sp)(n:Nat):Int:=EY (fun p=>if JX c x.row (x.place+(p:Int))=true then 0 else 1) n
def S5(s:List (List Int))(G:List (Nat×Int))(ss:List (Int×Int))(n:Nat):Int:=EY (fun k=>RT s (AR G ss k) (AR G ss k).size.toNat) n
def S6(c:AQ)(G:List (Nat×Int))(ss:List (Int×Int))(n:Nat):Int:=EY (fun k=>RU c (AR G ss k) (AR G ss k).size.toNat) n
theorem S7{c:AQ}{x:Sp}(hx:C4 c x=true):∃r p:Nat,x.row=r/\x.place=p/\(r:Int)<c.beach.rows/\(p:Int)+x.size<=c.beach.places:=by obtain⟨g1,g2,g3,g4⟩:=P6 hx;exact⟨x.row.toNat,x.place.toNat,by omega,by omega,by omega,by omega⟩
theorem wX{c:AQ}{s:List (List Int)}(hs:JJ c s){r p:Nat}(hr:(r:Int)<c.beach.rows)(hp:(p:Int)<c.beach.places):∃(h1:r<s.length) (h2:p<(s[r]).length),DC s (r:Int) (p:Int)=(s[r])[p]/\0<=(s[r])[p]/\(s[r])[p]<=5:=by
 have h1:r<s.length:=by rw[hs.ln];omega
 have h2:p<(s[r]).length:=by rw[hs.rw' _ (bk h1)];omega
 exact⟨h1,h2,mV hs h1 h2,hs.bd _ (bk h1) _ (bk h2)⟩
theorem AED{c:AQ}(hc:BN c){r p:Nat}(hr:(r:Int)<c.beach.rows)(hp:(p:Int)<c.beach.places):∃(h1:r<c.chairs.length) (h2:p<(c.chairs[r]).length),JX c (r:Int) (p:Int)=(c.chairs[r])[p]:=by
 have h1:r<c.chairs.length:=by have:=hc.ch;omega
 have h2:p<(c.chairs[r]).length:=by have:=hc.cr _ (bk h1);omega
 refine⟨h1,h2,?_⟩;unfold JX;rw[bq,bq,bb,bb,bj h1];simp only[bh,bj h2]
theorem wY{c:AQ}{s:List (List Int)}(hs:JJ c s){x:Sp}(hx:C4 c x=true){n:Nat}(hn:(n:Int)<=x.size):0<=RT s x n/\RT s x n<=n*5:=by obtain⟨r,p,e1,e2,h1,h2⟩:=S7 hx;refine M9 fun q hq=>?_;rw[e1,e2,<-bn];obtain⟨_,_,e,b1,b2⟩:=wX hs h1 (p:=p+q) (by omega);rw[e];exact⟨b1,b2⟩
theorem wZ(c:AQ)(x:Sp)(n:Nat):0<=RU c x n/\RU c x n<=n*1:=M9 fun q _=>by split<;>decide
theorem xA{c:AQ}{s:List (List Int)}(hs:JJ c s){G:List (Nat×Int)}{ss:List (Int×Int)}(hf:∀g∈G,0<=g.2/\g.2<=4)(hl:ss.length<=G.length)(hfit:∀k,k<ss.length->C4 c (AR G ss k)=true){n:Nat}(hn:n<=ss.length):0<=S5 s G ss n/\S5 s G ss n<=n*20:=by
 refine M9 fun k hk=>?_;have h4:=hf _ (bk (show k<G.length by omega));have e:(AR G ss k).size=G[k].2:=by rw[HH (by omega) (by omega)]
 have:=wY hs (hfit k (by omega)) (n:=(AR G ss k).size.toNat) (by omega);omega
theorem xB{c:AQ}{G:List (Nat×Int)}{ss:List (Int×Int)}(hf:∀g∈G,0<=g.2/\g.2<=4)(hl:ss.length<=G.length){n:Nat}(hn:n<=ss.length):0<=S6 c G ss n/\S6 c G ss n<=n*4:=by
 refine M9 fun k hk=>?_;have h4:=hf _ (bk (show k<G.length by omega));have e:(AR G ss k).size=G[k].2:=by rw[HH (by omega) (by omega)]
 have:=wZ c (AR G ss k) (AR G ss k).size.toNat;omega
section
variable (c:AQ)(hc:BN c)(s:List (List Int))(hs:JJ c s)(G:List (Nat×Int))(ss:List (Int×Int))(hf:∀g∈G,g.1<c.fams.length/\0<=g.2/\g.2<=4)(hl:ss.length<=G.length)(hl2:ss.length<=100)(hfit:∀k,k<ss.length->C4 c (AR G ss k)=true)
include hc hs hf hl hl2 hfit
omit hl2 in
theorem A3P(k:Nat)(hk:k<ss.length)(a:Int)(ha:0<=a/\a<=2000):∀(d q:Nat),q+d=(AR G ss k).size.toNat->∃fr,BD fr 0=some (true,FO s)/\BD fr 1=some (true,.list false (G.map A2))/\BD fr 2=some (true,.list false (ss.map AJ))/\BD fr 7=some (true,i (a+RT s (AR G ss k) (AR G ss k).size.toNat))/\BD fr 8=some (true,i k) /\
  ∀n m,d<m->BA (AE cg ann kn (n+100) 45) Z5 (ann 45 (BU Z5)) m ⟨0,[(0,true,FO s),(1,true,.list false (G.map A2)),(2,true,.list false (ss.map AJ)),(7,true,i (a+RT s (AR G ss k) q)),(8,true,i k),(9,true,i q)],⟨[],[]⟩⟩=some (.exit 2,⟨0,fr,⟨[],[]⟩⟩)
 |0,q,hd=>by
  obtain rfl:q=(AR G ss k).size.toNat:=by omega
  have hkG:k<G.length:=by omega
  have e:=HH hkG hk;have h4:=hf _ (bk hkG);have ez:(((AR G ss k).size.toNat:Nat):Int)=G[k].2:=by rw[e];simp only;omega
  have hnl:¬(((AR G ss k).size.toNat:Nat):Int)<G[k].2:=by omega
  generalize a+RT s (AR G ss k) (AR G ss k).size.toNat=A at *;generalize (AR G ss k).size.toNat=z at *;refine⟨?fr,?g1,?g2,?g3,?g4,?g5,fun n m hm=>?g9⟩;case g9=>
   obtain⟨m,rfl⟩:=qNz m (by omega)
   rw[AB]
   simp[hkG,A2,hnl]
   rfl
  all_goals simp
 |d+1,q,hd=>by
  have hro:=hc.be.ro;have hpl:=hc.be.pl;have hkG:k<G.length:=by omega
  have e:=HH hkG hk;have h4:=hf _ (bk hkG);have hql:(q:Int)<G[k].2:=by
   have:(AR G ss k).size=G[k].2:=by rw[e]
   omega
  have hw:=BJ (k:=q) (by omega);obtain⟨r,p,e1,e2,h1,h2⟩:=S7 (hfit k hk);have e3:(AR G ss k).size=G[k].2:=by rw[e]
  obtain⟨g1,g2,g3,b1,b2⟩:=wX hs h1 (p:=p+q) (by omega);have e4:ss[k].1=(r:Int):=by rw[<-e1,e]
  have e5:ss[k].2=(p:Int):=by rw[<-e2,e]
  have hgo:=bj g2;have hwp:IntKind.i64.wrap ((p:Int)+(q:Int))=(p:Int)+(q:Int):=AW (by omega) (by omega);have hp0:(0:Int)<=(p:Int)+(q:Int):=by omega
  have hp1:(p:Int)+(q:Int)<((s[r]).length:Int):=by omega
  have hp2:((p:Int)+(q:Int)).toNat=p+q:=by omega
  have hB:=wY hs (hfit k hk) (n:=q) (by omega);obtain⟨fr,c0,c1,c2,c7,c8,ih⟩:=A3P k hk a ha d (q+1) (by omega);refine⟨fr,c0,c1,c2,c7,c8,fun n m hm=>?_⟩;obtain⟨m,rfl⟩:=qNz m (by omega);have ih:=ih n m (by omega);have hst:RT s (AR G ss k) (q+1)=RT s (AR G ss k) q+(s[r])[p+q]:=by show RT s (AR G ss k) q+DC s (AR G ss k).row ((AR G ss k).place+(q:Int))=_;rw[e1,e2,<-bn,g3]
  have hwa:IntKind.i64.wrap (a+RT s (AR G ss k) q+(s[r])[p+q])=a+(RT s (AR G ss k) q+(s[r])[p+q]):=by rw[AW (by omega) (by omega)];omega
  rw[hst]at ih;generalize RT s (AR G ss k) q=A at *;rw[AB];simp at ih;simp[hk,hkG,hql,hw,g1,g2,e4,e5,hwp,hp0,hp1,hp2,hwa,AZ,AX,A2,AJ,ih]
theorem A3Q:∀(d k:Nat),k+d=ss.length->∃fr,BD fr 7=some (true,i (S5 s G ss ss.length)) /\
  ∀n m,d<m->BA (AE cg ann kn (n+300) 45) Z6 (ann 45 (BU Z6)) m ⟨0,[(0,true,FO s),(1,true,.list false (G.map A2)),(2,true,.list false (ss.map AJ)),(7,true,i (S5 s G ss k)),(8,true,i k)],⟨[],[]⟩⟩=some (.exit 0,⟨0,fr,⟨[],[]⟩⟩)
 |0,k,hd=>by
  obtain rfl:k=ss.length:=by omega
  generalize S5 s G ss ss.length=A at *;refine⟨?fr,?g1,fun n m hm=>?g9⟩;case g9=>
   obtain⟨m,rfl⟩:=qNz m (by omega)
   rw[AB]
   simp
   rfl
  all_goals simp
 |d+1,k,hd=>by
  have hk:k<ss.length:=by omega
  have hkG:k<G.length:=by omega
  have hw:=BJ (k:=k) (by omega);have hB:=xA hs (fun g hg=>(hf g hg).2) hl hfit (n:=k) (by omega);obtain⟨f0,b0,b1,b2,b7,b8,qi⟩:=A3P c hc s hs G ss hf hl hfit k hk (S5 s G ss k) (by omega) (AR G ss k).size.toNat 0 (by omega);have h4:=hf _ (bk hkG);have e3:(AR G ss k).size=G[k].2:=by rw[HH hkG hk]
  have qi:=fun n m=>qi n (m+100) (by omega);rw[show RT s (AR G ss k) 0=0 from rfl,cz]at qi;obtain⟨fr,c7,ih⟩:=A3Q d (k+1) (by omega);refine⟨fr,c7,fun n m hm=>?_⟩;obtain⟨m,rfl⟩:=qNz m (by omega);have ih:=ih n m (by omega);have hst:S5 s G ss (k+1)=S5 s G ss k+RT s (AR G ss k) (AR G ss k).size.toNat:=rfl;rw[hst]at ih;generalize S5 s G ss k=A at *;generalize RT s (AR G ss k) (AR G ss k).size.toNat=B at *;rw[AB];simp at ih qi;simp[hk,hw,qi,b0,b1,b2,b7,b8,ih]
theorem AEE(n:Nat):AY cg kn (AE cg ann kn (n+500)) 37 [FO s,.list false (G.map A2),.list false (ss.map AJ)]=some (i (S5 s G ss ss.length)):=by rw[AN rfl,AO Tryz.func37 b37 rfl (by simp[A2])];obtain⟨fr,e,q⟩:=A3Q c hc s hs G ss hf hl hl2 hfit ss.length 0 (by omega);have q:=fun n m=>q n (m+101) (by omega);rw[show S5 s G ss 0=0 from rfl]at q;generalize S5 s G ss ss.length=A at *;simp at q;simp[c37,AF,q,e]
omit hs
omit hl2 in
theorem A3R(k:Nat)(hk:k<ss.length)(a:Int)(ha:0<=a/\a<=2000):∀(d q:Nat),q+d=(AR G ss k).size.toNat->∃fr,BD fr 1=some (true,.list false (G.map A2))/\BD fr 2=some (true,.list false (ss.map AJ))/\BD fr 3=some (true,.ptr 0 3 0 0)/\BD fr 7=some (true,i (a+RU c (AR G ss k) (AR G ss k).size.toNat))/\BD fr 8=some (true,i k) /\
  ∀n m,d<m->BA (AE cg ann kn (n+100) 47) Z7 (ann 47 (BU Z7)) m ⟨1,[(1,true,.list false (G.map A2)),(2,true,.list false (ss.map AJ)),(3,true,.ptr 0 3 0 0),(7,true,i (a+RU c (AR G ss k) q)),(8,true,i k),(9,true,i q)],⟨[],[(3,0,.box (AD c))]⟩⟩=some (.exit 2,⟨1,fr,⟨[],[(3,0,.box (AD c))]⟩⟩)
 |0,q,hd=>by
  obtain rfl:q=(AR G ss k).size.toNat:=by omega
  have hkG:k<G.length:=by omega
  have e:=HH hkG hk;have h4:=hf _ (bk hkG);have ez:(((AR G ss k).size.toNat:Nat):Int)=G[k].2:=by rw[e];simp only;omega
  have hnl:¬(((AR G ss k).size.toNat:Nat):Int)<G[k].2:=by omega
  generalize a+RU c (AR G ss k) (AR G ss k).size.toNat=A at *;generalize (AR G ss k).size.toNat=z at *;refine⟨?fr,?g1,?g2,?g3,?g4,?g5,fun n m hm=>?g9⟩;case g9=>
   obtain⟨m,rfl⟩:=qNz m (by omega)
   rw[AB]
   simp[AD,hkG,A2,hnl]
   rfl
  all_goals simp
 |d+1,q,hd=>by
  have hro:=hc.be.ro;have hpl:=hc.be.pl;have hkG:k<G.length:=by omega
  have e:=HH hkG hk;have h4:=hf _ (bk hkG);have hql:(q:Int)<G[k].2:=by
   have:(AR G ss k).size=G[k].2:=by rw[e]
   omega
  have hw:=BJ (k:=q) (by omega);obtain⟨r,p,e1,e2,h1,h2⟩:=S7 (hfit k hk);have e3:(AR G ss k).size=G[k].2:=by rw[e]
  obtain⟨g1,g2,g3⟩:=AED hc h1 (p:=p+q) (by omega);have e4:ss[k].1=(r:Int):=by rw[<-e1,e]
  have e5:ss[k].2=(p:Int):=by rw[<-e2,e]
  have hwp:IntKind.i64.wrap ((p:Int)+(q:Int))=(p:Int)+(q:Int):=AW (by omega) (by omega);have hp0:(0:Int)<=(p:Int)+(q:Int):=by omega
  have hp1:(p:Int)+(q:Int)<((c.chairs[r]).length:Int):=by omega
  have hp2:((p:Int)+(q:Int)).toNat=p+q:=by omega
  have hB:=wZ c (AR G ss k) q;obtain⟨fr,c1,c2,c3,c7,c8,ih⟩:=A3R k hk a ha d (q+1) (by omega);refine⟨fr,c1,c2,c3,c7,c8,fun n m hm=>?_⟩;obtain⟨m,rfl⟩:=qNz m (by omega);have ih:=ih n m (by omega);have hst:RU c (AR G ss k) (q+1)=RU c (AR G ss k) q+(if (c.chairs[r])[p+q]=true then 0 else 1):=by show RU c (AR G ss k) q+(if JX c (AR G ss k).row ((AR G ss k).place+(q:Int))=true then 0 else 1)=_;rw[e1,e2,<-bn,g3]
  have hwa:IntKind.i64.wrap (a+RU c (AR G ss k) q+1)=a+(RU c (AR G ss k) q+1):=by rw[AW (by omega) (by omega)];omega
  rw[hst]at ih;generalize RU c (AR G ss k) q=A at *;rw[AB];simp only[AD]at ih|-;cases hz:(c.chairs[r])[p+q]<;>rw[hz]at ih
  ·simp only[Bool.false_eq_true,if_false]at ih;simp at ih;simp[hk,hkG,hql,hw,g1,g2,e4,e5,hwp,hp0,hp1,hp2,hwa,hz,A2,AJ,AS,A6,ih]
  ·simp only[if_true,cz]at ih;simp at ih;simp[hk,hkG,hql,hw,g1,g2,e4,e5,hwp,hp0,hp1,hp2,hz,A2,AJ,AS,A6,ih]
theorem A3S:∀(d k:Nat),k+d=ss.length->∃fr,BD fr 7=some (true,i (S6 c G ss ss.length)) /\
  ∀n m,d<m->BA (AE cg ann kn (n+300) 47) Z8 (ann 47 (BU Z8)) m ⟨1,[(1,true,.list false (G.map A2)),(2,true,.list false (ss.map AJ)),(3,true,.ptr 0 3 0 0),(7,true,i (S6 c G ss k)),(8,true,i k)],⟨[],[(3,0,.box (AD c))]⟩⟩=some (.exit 0,⟨1,fr,⟨[],[(3,0,.box (AD c))]⟩⟩)
 |0,k,hd=>by
  obtain rfl:k=ss.length:=by omega
  generalize S6 c G ss ss.length=A at *;refine⟨?fr,?g1,fun n m hm=>?g9⟩;case g9=>
   obtain⟨m,rfl⟩:=qNz m (by omega)
   rw[AB]
   simp[AD]
   rfl
  all_goals simp
 |d+1,k,hd=>by
  have hk:k<ss.length:=by omega
  have hkG:k<G.length:=by omega
  have hw:=BJ (k:=k) (by omega);have hB:=xB (c:=c) (ss:=ss) (fun g hg=>(hf g hg).2) hl (n:=k) (by omega);obtain⟨f0,b1,b2,b3,b7,b8,qi⟩:=A3R c hc G ss hf hl hfit k hk (S6 c G ss k) (by omega) (AR G ss k).size.toNat 0 (by omega);have h4:=hf _ (bk hkG);have e3:(AR G ss k).size=G[k].2:=by rw[HH hkG hk]
  have qi:=fun n m=>qi n (m+100) (by omega);rw[show RU c (AR G ss k) 0=0 from rfl,cz]at qi;obtain⟨fr,c7,ih⟩:=A3S d (k+1) (by omega);refine⟨fr,c7,fun n m hm=>?_⟩;obtain⟨m,rfl⟩:=qNz m (by omega);have ih:=ih n m (by omega);have hst:S6 c G ss (k+1)=S6 c G ss k+RU c (AR G ss k) (AR G ss k).size.toNat:=rfl;rw[hst]at ih;generalize S6 c G ss k=A at *;generalize RU c (AR G ss k) (AR G ss k).size.toNat=B at *;rw[AB];simp only[AD]at ih qi|-;simp at ih qi;simp[hk,hw,qi,b1,b2,b3,b7,b8,ih]
theorem ZL(n:Nat):AY cg kn (AE cg ann kn (n+500)) 38 [.agg (AD c),.list false (G.map A2),.list false (ss.map AJ)]=some (i (S6 c G ss ss.length)):=by rw[AN rfl,AO Tryz.func38 b38 rfl (by simp[AD,AS,A6,AU,A2])];obtain⟨fr,e,q⟩:=A3S c hc G ss hf hl hl2 hfit ss.length 0 (by omega);have q:=fun n m=>q n (m+101) (by omega);rw[show S6 c G ss 0=0 from rfl]at q;generalize S6 c G ss ss.length=A at *;simp only[AD]at q|-;simp at q;simp[c38,AF,q,e]
end
theorem V6(f:Nat->Int):∀n,((bx n).map f).sum=EY f n
 |0=>rfl
 |n+1=>by rw[bp,List.map_append,List.sum_append,V6 f n];simp[EY]
theorem XM{c:AQ}{ss:List (Int×Int)}(hl:ss.length=c.fams.length):A5 c ss=(bx ss.length).map (AR (AK c []) ss):=by
 have hgl:=CL c;refine RP (by omega) (by rw[show(A5 c ss).length=c.fams.length from DL hl,hl]) fun j h1=>?_;have hj:j<c.fams.length:=by rw[<-show(A5 c ss).length=c.fams.length from DL hl];exact h1
 have hjs:j<ss.length:=by omega
 have e:=I0 (k:=0) (fs:=c.fams) (ss:=ss) j hj hjs h1;rw[Nat.zero_add]at e;refine e.trans ?_;rw[IG];simp only[AR,bq,cw,ck hj,bj hjs,cd,bh,ED,bj hj]
theorem AKV{c:AQ}{s:List (List Int)}{ss:List (Int×Int)}(hl:ss.length=c.fams.length):(D6 c s (A5 c ss)).sun=S5 s (AK c []) ss ss.length/\(D6 c s (A5 c ss)).carried=S6 c (AK c []) ss ss.length:=by rw[V3,XM hl];simp only[List.map_map];exact⟨V6 _ _,V6 _ _⟩
theorem OV{c:AQ}{ss:List (Int×Int)}(hs:D1 c ss=true):∀x∈A5 c ss,C4 c x=true:=by simp only[D1,HF,bw,decide_eq_true_eq]at hs;exact K3 c _ _ hs.2.1
theorem jO{c:AQ}{ss:List (Int×Int)}(hs:D1 c ss=true):∀k,k<ss.length->C4 c (AR (AK c []) ss k)=true:=fun k hk=>by
 have hl:ss.length=c.fams.length:=by simp only[D1,bw,decide_eq_true_eq]at hs;exact hs.1
 refine OV hs _ ?_;rw[XM hl];exact cj.2 ⟨k,bg.2 hk,rfl⟩
theorem mX{c:AQ}(hc:BN c){ss:List (Int×Int)}(hs:D1 c ss=true):D6 c (A0 c) (A5 c ss)=D6 c (CZ c) (A5 c ss):=AAW (fV hc) (OV hs)
theorem KC{c:AQ}(hc:BN c)(ss:List (Int×Int)):EX c (A0 c) ss=EX c (CZ c) ss:=by
 unfold EX;cases hs:D1 c ss with
 |false=>rfl
 |true=>rw[mX hc hs]
def JK(c:AQ)(ss:List (Int×Int)):Int:=S5 (CZ c) (AK c []) ss ss.length
def JZ(c:AQ)(ss:List (Int×Int)):Int:=S6 c (AK c []) ss ss.length
theorem mY{c:AQ}(hc:BN c){ss:List (Int×Int)}(hs:D1 c ss=true):(D6 c (A0 c) (A5 c ss)).sun=JK c ss/\(D6 c (A0 c) (A5 c ss)).carried=JZ c ss:=by
 have hl:ss.length=c.fams.length:=by simp only[D1,bw,decide_eq_true_eq]at hs;exact hs.1
 rw[mX hc hs];exact AKV hl
theorem AKW{c:AQ}(h0:EC c=0)(ss:List (Int×Int))(a b:Int):V4 c ss a b=(EX c (CZ c) ss&&(decide (a<=JK c ss)&&decide (JZ c ss<=b))):=by
 have hc:=GY h0;rw[<-KC hc];unfold V4 EX;rw[h0,decide_eq_true rfl,cx];cases hs:D1 c ss with
 |false=>rfl
 |true=>
  rw[(mY hc hs).1,(mY hc hs).2]
  simp only[cx]
theorem AKX{c:AQ}(h0:EC c=0)(hn:H9 c=none)(ss:List (Int×Int)):EX c (CZ c) ss=false:=by
 cases h:EX c (CZ c) ss with
 |false=>rfl
 |true=>
  rw[<-KC (GY h0)]at h
  have hm:=YS.2 (mO h)
  have:=AAU.1 hn
  rw[this]at hm
  cases hm
theorem AKY{c:AQ}(h0:EC c=0){q:List Sp×CB}(hb:H9 c=some q){ss:List (Int×Int)}(ha:EX c (CZ c) ss=true):JK c ss<=q.2.sun/\(JK c ss<q.2.sun\/q.2.carried<=JZ c ss):=by have hc:=GY h0;rw[<-KC hc]at ha;obtain⟨b,t⟩:=q;obtain⟨_,_,h3⟩:=V2 hb;have:=h3 _ (YS.2 (mO ha));obtain⟨e1,e2⟩:=mY hc (GZ.1 ha).1;unfold geS at this;rw[e1,e2]at this;simp only;omega
theorem AS1{k:Nat}{x:Int}(h:k<=10000):B5 cg 3 k [[i x]]=true:=by rw[BZ (by simp) (by simp)];simp[maxLen];omega
theorem AS2{k:Nat}{x:List Int}(h:k<=10000):B5 cg 22 k [[li x]]=true:=by rw[BZ (by simp) (by simp)];simp[maxLen];omega
theorem mZ{b:AL}(hb:Valid b):(BS b).length<=1100:=by have h1:=hb.many;have h2:(BS b).length<=((bx (GA b.winds)).map (D7 b.winds)).length:=List.length_filter_le _ _;rw[List.length_map,bz]at h2;omega
def M5(c:AQ)(r n:Nat):List Int:=(bx n).map (N7 c r)
theorem AA9(c:AQ)(r n:Nat):M5 c r (n+1)=M5 c r n++[N7 c r n]:=by simp[M5,bp]
theorem nA(c:AQ)(r n:Nat):(M5 c r n).length=n:=by simp[M5]
def HI(c:AQ)(n:Nat):List (List Int):=(bx n).map fun r=>M5 c r c.beach.places.toNat
theorem sX(c:AQ)(n:Nat):HI c (n+1)=HI c n++[M5 c n c.beach.places.toNat]:=by simp[HI,bp]
theorem gA(c:AQ)(n:Nat):(HI c n).length=n:=by simp[HI]
theorem A3T(c:AQ)(hc:BN c)(hp:FL c.beach c.plan)(r:Nat)(hr:(r:Int)<c.beach.rows)(γ4:Nat)(A:List (List V)):∀(d q cc γ:Nat),q+d=c.beach.places.toNat->∃c' γ',∀n m,d<m->BA (AE cg ann kn (n+3400) 49) aI (ann 49 (BU aI)) m ⟨cc,[(1,true,.ptr 0 1 0 0),(3,true,.list false ((BS c.beach).map AZ)),(4,true,pv 47 γ4 A),(5,true,i r),(6,true,pv 43 γ ((M5 c r q).map AX)),(7,true,i q)],⟨[],(1,0,.box (AD c))::(pl 43 γ 3 ((M5 c r q).map AX)++pl 47 γ4 22 A)⟩⟩ =
  some (.exit 2,⟨c',[(24,true,.bool false),(23,true,i c.beach.places),(22,true,.ptr 0 1 0 2),(21,true,.ptr 0 1 0 0),(20,true,i c.beach.places),(1,true,.ptr 0 1 0 0),(3,true,.list false ((BS c.beach).map AZ)),(4,true,pv 47 γ4 A),(5,true,i r),(6,true,pv 43 γ' ((M5 c r c.beach.places.toNat).map AX)),(7,true,i c.beach.places)],⟨[],(1,0,.box (AD c))::(pl 43 γ' 3 ((M5 c r c.beach.places.toNat).map AX)++pl 47 γ4 22 A)⟩⟩)
 |0,q,cc,γ,hd=>by
  have hpl:=hc.be.pl;have hq:q=c.beach.places.toNat:=by omega
  have hq':c.beach.places=(q:Int):=by omega
  rw[<-hq];refine⟨cc,γ,fun n m hm=>?_⟩;obtain⟨m,rfl⟩:=qNz m (by omega);rw[AB];generalize M5 c r q=R;simp[AD,hq',KU,IY,H1,VL]
 |d+1,q,cc,γ,hd=>by
  have hpl:=hc.be.pl;have hro:=hc.be.ro;have hw:=BJ (k:=q) (by omega);have hq':(q:Int)<c.beach.places:=by omega
  have hTl:=mZ hc.be;have qB:=fun n=>AEJ n hc.be hp r q (by omega) (by omega) (BS c.beach) (fun t ht=>UI ht) hTl;have hcc:cc<cc+1+1:=by omega
  have eS:(DN DO ((BS c.beach).map fun t=>(CG c.beach c.plan t r q).good)).1=N7 c r q:=rfl;obtain⟨c',γ',ih⟩:=A3T c hc hp r hr γ4 A d (q+1) (cc+1+1+1) (cc+1+1) (by omega);rw[AA9]at ih;have happ:=AS1 (k:=(M5 c r q).length) (x:=N7 c r q) (by rw[nA];omega);refine⟨c',γ',fun n m hm=>?_⟩;obtain⟨m,rfl⟩:=qNz m (by omega);have ih:=ih n m (by omega);generalize M5 c r c.beach.places.toNat=RF at ih|-;generalize M5 c r q=R at ih happ|-;generalize DN DO ((BS c.beach).map fun t=>(CG c.beach c.plan t r q).calm)=B1 at *;generalize DN DO ((BS c.beach).map fun t=>(CG c.beach c.plan t r q).good)=B2 at *;generalize N7 c r q=S at *;subst eS;generalize BS c.beach=T at *;rw[AB];simp only[AD,AC,F0]at qB ih|-;simp[AX]at ih;simp[hq',hw,hcc,qB,happ,AX,ih,KU,IY,H1,VL]
theorem A3U(c:AQ)(hc:BN c)(hp:FL c.beach c.plan):∀(d r cc γ:Nat),r+d=c.beach.rows.toNat->∃fr c' γ',BD fr 4=some (true,pv 47 γ' ((HI c c.beach.rows.toNat).map AZ))/\∀n m,d<m->BA (AE cg ann kn (n+3600) 49) aJ (ann 49 (BU aJ)) m ⟨cc,[(1,true,.ptr 0 1 0 0),(3,true,.list false ((BS c.beach).map AZ)),(4,true,pv 47 γ ((HI c r).map AZ)),(5,true,i r)],⟨[],(1,0,.box (AD c))::pl 47 γ 22 ((HI c r).map AZ)⟩⟩ =
  some (.exit 0,⟨c',fr,⟨[],(1,0,.box (AD c))::pl 47 γ' 22 ((HI c c.beach.rows.toNat).map AZ)⟩⟩)
 |0,r,cc,γ,hd=>by
  have hro:=hc.be.ro;have hr:r=c.beach.rows.toNat:=by omega
  have hr':¬(r:Int)<c.beach.rows:=by omega
  rw[<-hr];generalize BS c.beach=T;refine⟨?fr,cc,γ,?g1,fun n m hm=>?g2⟩;case g2=>
   obtain⟨m,rfl⟩:=qNz m (by omega)
   rw[AB]
   simp[AD,hr']
   rfl
  case g1=>simp
 |d+1,r,cc,γ,hd=>by
  have hro:=hc.be.ro;have hpl:=hc.be.pl;have hw:=BJ (k:=r) (by omega);have hr':(r:Int)<c.beach.rows:=by omega
  obtain⟨c1,γ1,q⟩:=A3T c hc hp r hr' γ ((HI c r).map AZ) c.beach.places.toNat 0 cc 0 (by omega);have q:=fun n m=>q n (m+100) (by omega);obtain⟨fr,c',γ',e1,ih⟩:=A3U c hc hp d (r+1) (c1+1) c1 (by omega);rw[sX]at ih;have h0:M5 c r 0=[]:=rfl;rw[h0]at q;have happ:=AS2 (k:=(HI c r).length) (x:=M5 c r c.beach.places.toNat) (by rw[gA];omega);have hne:M5 c r c.beach.places.toNat≠[]:=by intro e;have:=congrArg List.length e;rw[nA]at this;simp at this;omega
  refine⟨fr,c',γ',e1,fun n m hm=>?_⟩;obtain⟨m,rfl⟩:=qNz m (by omega);have ih:=ih n m (by omega);generalize HI c c.beach.rows.toNat=FF at ih|-;generalize M5 c r c.beach.places.toNat=RR at ih q happ hne;generalize BS c.beach=T at *;obtain⟨y,RR,rfl⟩:=bc hne;have htl:∀o,E8 0 43 o (pl 47 γ 22 ((HI c r).map AZ))=pl 47 γ 22 ((HI c r).map AZ):=fun o=>W8 (by decide) _ _ _ (by simp);have hsl:sl ([i y]::RR.map AX)=.list false ([i y]::RR.map AX):=rfl;rw[AB];simp only[AD]at ih q|-;simp[AZ,AX]at ih q;have happ:B5 cg 22 (HI c r).length [[V.list false ([i y]::RR.map AX)]]=true:=happ;simp[hr',hw,AZ,q,happ,htl,hsl,KU];try exact ih
theorem AS3(n:Nat)(c:AQ)(hc:BN c):AY cg kn (AE cg ann kn (n+3800)) 35 [.agg (AD c)]=some (FO (CZ c)):=by
 rw[AN rfl,AO Tryz.func35 b35 rfl (by simp[AD,AS,A6,AU])];have hro:=hc.be.ro;have hp:=xY hc.pl;have qt:=fun n=>gE n c.beach hc.be;rw[slX hc.tr]at qt;obtain⟨fr,c',γ',e1,q⟩:=A3U c hc hp c.beach.rows.toNat 0 1 0 (by omega);have q:=fun n m=>q n (m+100) (by omega);have h0:HI c 0=[]:=rfl;rw[h0]at q;have hne:HI c c.beach.rows.toNat≠[]:=fun e=>by have:=congrArg List.length e;rw[gA]at this;simp at this;omega
 have hF:CZ c=HI c c.beach.rows.toNat:=rfl;rw[hF];generalize HI c c.beach.rows.toNat=F at *;generalize BS c.beach=T at *;simp only[AD,AC]at q qt|-;simp at q;simp[c35,AF,q,qt,e1];obtain⟨y,F,rfl⟩:=bc hne;rfl
end Go.Proofs.Tryz.Op
