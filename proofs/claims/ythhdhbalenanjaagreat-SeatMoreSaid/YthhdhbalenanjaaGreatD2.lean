/- Contracts of the reference: Enough, IsAllowed. No condition but a valid case, sure hours for each place. -/
import Derived.Test.YthhdhbalenanjaaGreatA2
import Derived.Test.YthhdhbalenanjaaGreatEj
open Go.Proofs.Tryz renaming prog->bh
open List renaming getElem?_eq_getElem->bj,getD_eq_getElem?_getD->bk,getElem_mem->bq,exists_cons_of_ne_nil->bw,range_succ->bz,mem_map->bb,mem_range->bc,range->bf
open Bool renaming and_eq_true->bx
set_option maxRecDepth 100000
set_option linter.unusedSimpArgs false
open Go Go.Pg Go.Proofs Go.Wind
namespace Go.Proofs.Tryz.Op
structure SE(c:AO)(s:List (List Int)):Prop where
 ln:s.length=c.beach.rows.toNat
 rw':∀l∈s,l.length=c.beach.places.toNat
 bd:∀l∈s,∀x∈l,0<=x/\x<=5
theorem AFF{c:AO}(hc:B7 c):SE c (LI c) where
 ln:=by simp[LI]
 rw':=fun l hl=>by simp only[LI,bb,bc]at hl;obtain⟨r,_,rfl⟩:=hl;simp
 bd:=fun l hl x hx=>by simp only[LI,bb,bc]at hl;obtain⟨r,_,rfl⟩:=hl;obtain⟨p,_,rfl⟩:=bb.1 hx;exact nA hc r p
theorem AFG{c:AO}{s:List (List Int)}(_:SE c s){r p:Nat}(hr:r<s.length)(hp:p<(s[r]).length):DC s (r:Int) (p:Int)=(s[r])[p]:=by unfold DC;rw[bk,bk,Int.toNat_natCast,Int.toNat_natCast,bj hr];simp only[Option.getD_some,bj hp]
theorem ZF{G:List (Nat×Int)}{ss:List (Int×Int)}{k:Nat}(h1:k<G.length)(h2:k<ss.length):AY G ss k=⟨G[k].1,G[k].2,ss[k].1,ss[k].2⟩:=by simp[AY,bk,bj h1,bj h2]
def SF(s:List (List Int))(x:Sp)(n:Nat):Int:=E3 (fun p=>DC s x.row (x.place+(p:Int))) n
def BHD(c:AO)(x:Sp)(n:Nat):Int:=E3 (fun p=>if QC c x.row (x.place+(p:Int))=true then 0 else 1) n
def TM(s:List (List Int))(G:List (Nat×Int))(ss:List (Int×Int))(n:Nat):Int:=E3 (fun k=>SF s (AY G ss k) (AY G ss k).size.toNat) n
def A5U(c:AO)(G:List (Nat×Int))(ss:List (Int×Int))(n:Nat):Int:=E3 (fun k=>BHD c (AY G ss k) (AY G ss k).size.toNat) n
theorem nG{c:AO}{x:Sp}(hx:DN c x=true):∃r p:Nat,x.row=r/\x.place=p/\(r:Int)<c.beach.rows/\(p:Int)+x.size<=c.beach.places:=by obtain⟨g1,g2,g3,g4⟩:=QE hx;exact⟨x.row.toNat,x.place.toNat,by omega,by omega,by omega,by omega⟩
theorem xM{c:AO}{s:List (List Int)}(hs:SE c s){r p:Nat}(hr:(r:Int)<c.beach.rows)(hp:(p:Int)<c.beach.places):∃(h1:r<s.length) (h2:p<(s[r]).length),DC s (r:Int) (p:Int)=(s[r])[p]/\0<=(s[r])[p]/\(s[r])[p]<=5:=by
 have h1:r<s.length:=by rw[hs.ln];omega
 have h2:p<(s[r]).length:=by rw[hs.rw' _ (bq h1)];omega
 exact⟨h1,h2,AFG hs h1 h2,hs.bd _ (bq h1) _ (bq h2)⟩
theorem xN{c:AO}{s:List (List Int)}(hs:SE c s){x:Sp}(hx:DN c x=true){n:Nat}(hn:(n:Int)<=x.size):0<=SF s x n/\SF s x n<=n*5:=by obtain⟨r,p,e1,e2,h1,h2⟩:=nG hx;refine UY fun q hq=>?_;rw[e1,e2,<-Int.natCast_add];obtain⟨_,_,e,b1,b2⟩:=xM hs h1 (p:=p+q) (by omega);rw[e];exact⟨b1,b2⟩
theorem ALM{c:AO}{s:List (List Int)}(hs:SE c s){G:List (Nat×Int)}{ss:List (Int×Int)}(hf:∀g∈G,0<=g.2/\g.2<=4)(hl:ss.length<=G.length)(hfit:∀k,k<ss.length->DN c (AY G ss k)=true){n:Nat}(hn:n<=ss.length):0<=TM s G ss n/\TM s G ss n<=n*20:=by
 refine UY fun k hk=>?_;have h4:=hf _ (bq (show k<G.length by omega));have e:(AY G ss k).size=G[k].2:=by rw[ZF (by omega) (by omega)]
 have:=xN hs (hfit k (by omega)) (n:=(AY G ss k).size.toNat) (by omega);omega
section
variable (c:AO)(hc:B7 c)(s:List (List Int))(hs:SE c s)(G:List (Nat×Int))(ss:List (Int×Int))(hf:∀g∈G,g.1<c.fams.length/\0<=g.2/\g.2<=4)(hl:ss.length<=G.length)(hl2:ss.length<=100)(hfit:∀k,k<ss.length->DN c (AY G ss k)=true)
include hc hs hf hl hl2 hfit
omit hl2 in
theorem A5V(k:Nat)(hk:k<ss.length)(a:Int)(ha:0<=a/\a<=2000):∀(d q:Nat),q+d=(AY G ss k).size.toNat->∃fr,BJ fr 0=some (true,HU s)/\BJ fr 1=some (true,.list false (G.map A9))/\BJ fr 2=some (true,.list false (ss.map AJ))/\BJ fr 7=some (true,i (a+SF s (AY G ss k) (AY G ss k).size.toNat))/\BJ fr 8=some (true,i k) /\
  ∀n m,d<m->BI (AE bh ann kn (n+100) 45) aM (ann 45 (BZ aM)) m ⟨0,[(0,true,HU s),(1,true,.list false (G.map A9)),(2,true,.list false (ss.map AJ)),(7,true,i (a+SF s (AY G ss k) q)),(8,true,i k),(9,true,i q)],⟨[],[]⟩⟩=some (.exit 2,⟨0,fr,⟨[],[]⟩⟩)
 |0,q,hd=>by
  obtain rfl:q=(AY G ss k).size.toNat:=by omega
  have hkG:k<G.length:=by omega
  have e:=ZF hkG hk;have h4:=hf _ (bq hkG);have ez:(((AY G ss k).size.toNat:Nat):Int)=G[k].2:=by rw[e];simp only;omega
  have hnl:¬(((AY G ss k).size.toNat:Nat):Int)<G[k].2:=by omega
  generalize a+SF s (AY G ss k) (AY G ss k).size.toNat=A at *;generalize (AY G ss k).size.toNat=z at *;refine⟨?fr,?g1,?g2,?g3,?g4,?g5,fun n m hm=>?g9⟩;case g9=>
   obtain⟨m,rfl⟩:=qNz m (by omega)
   rw[AB]
   simp[hkG,A9,hnl]
   rfl
  all_goals simp
 |d+1,q,hd=>by
  have hro:=hc.be.ro;have hpl:=hc.be.pl;have hkG:k<G.length:=by omega
  have e:=ZF hkG hk;have h4:=hf _ (bq hkG);have hql:(q:Int)<G[k].2:=by
   have:(AY G ss k).size=G[k].2:=by rw[e]
   omega
  have hw:=BS (k:=q) (by omega);obtain⟨r,p,e1,e2,h1,h2⟩:=nG (hfit k hk);have e3:(AY G ss k).size=G[k].2:=by rw[e]
  obtain⟨g1,g2,g3,b1,b2⟩:=xM hs h1 (p:=p+q) (by omega);have e4:ss[k].1=(r:Int):=by rw[<-e1,e]
  have e5:ss[k].2=(p:Int):=by rw[<-e2,e]
  have hgo:=bj g2;have hwp:IntKind.i64.wrap ((p:Int)+(q:Int))=(p:Int)+(q:Int):=AV (by omega) (by omega);have hp0:(0:Int)<=(p:Int)+(q:Int):=by omega
  have hp1:(p:Int)+(q:Int)<((s[r]).length:Int):=by omega
  have hp2:((p:Int)+(q:Int)).toNat=p+q:=by omega
  have hB:=xN hs (hfit k hk) (n:=q) (by omega);obtain⟨fr,c0,c1,c2,c7,c8,ih⟩:=A5V k hk a ha d (q+1) (by omega);refine⟨fr,c0,c1,c2,c7,c8,fun n m hm=>?_⟩;obtain⟨m,rfl⟩:=qNz m (by omega);have ih:=ih n m (by omega);have hst:SF s (AY G ss k) (q+1)=SF s (AY G ss k) q+(s[r])[p+q]:=by show SF s (AY G ss k) q+DC s (AY G ss k).row ((AY G ss k).place+(q:Int))=_;rw[e1,e2,<-Int.natCast_add,g3]
  have hwa:IntKind.i64.wrap (a+SF s (AY G ss k) q+(s[r])[p+q])=a+(SF s (AY G ss k) q+(s[r])[p+q]):=by rw[AV (by omega) (by omega)];omega
  rw[hst]at ih;generalize SF s (AY G ss k) q=A at *;rw[AB];simp at ih;simp[hk,hkG,hql,hw,g1,g2,e4,e5,hwp,hp0,hp1,hp2,hwa,AN,AH,A9,AJ,DB,ih]
theorem A5W:∀(d k:Nat),k+d=ss.length->∃fr,BJ fr 7=some (true,i (TM s G ss ss.length)) /\
  ∀n m,d<m->BI (AE bh ann kn (n+300) 45) aN (ann 45 (BZ aN)) m ⟨0,[(0,true,HU s),(1,true,.list false (G.map A9)),(2,true,.list false (ss.map AJ)),(7,true,i (TM s G ss k)),(8,true,i k)],⟨[],[]⟩⟩=some (.exit 0,⟨0,fr,⟨[],[]⟩⟩)
 |0,k,hd=>by
  obtain rfl:k=ss.length:=by omega
  generalize TM s G ss ss.length=A at *;refine⟨?fr,?g1,fun n m hm=>?g9⟩;case g9=>
   obtain⟨m,rfl⟩:=qNz m (by omega)
   rw[AB]
   simp
   rfl
  all_goals simp
 |d+1,k,hd=>by
  have hk:k<ss.length:=by omega
  have hkG:k<G.length:=by omega
  have hw:=BS (k:=k) (by omega);have hB:=ALM hs (fun g hg=>(hf g hg).2) hl hfit (n:=k) (by omega);obtain⟨f0,b0,b1,b2,b7,b8,qi⟩:=A5V c hc s hs G ss hf hl hfit k hk (TM s G ss k) (by omega) (AY G ss k).size.toNat 0 (by omega);have h4:=hf _ (bq hkG);have e3:(AY G ss k).size=G[k].2:=by rw[ZF hkG hk]
  have qi:=fun n m=>qi n (m+100) (by omega);rw[show SF s (AY G ss k) 0=0 from rfl,Int.add_zero]at qi;obtain⟨fr,c7,ih⟩:=A5W d (k+1) (by omega);refine⟨fr,c7,fun n m hm=>?_⟩;obtain⟨m,rfl⟩:=qNz m (by omega);have ih:=ih n m (by omega);have hst:TM s G ss (k+1)=TM s G ss k+SF s (AY G ss k) (AY G ss k).size.toNat:=rfl;rw[hst]at ih;generalize TM s G ss k=A at *;generalize SF s (AY G ss k) (AY G ss k).size.toNat=B at *;rw[AB];simp at ih qi;simp[hk,hw,qi,b0,b1,b2,b7,b8,DB,ih]
theorem A5X(n:Nat):A3 bh kn (AE bh ann kn (n+500)) 37 [HU s,.list false (G.map A9),.list false (ss.map AJ)]=some (i (TM s G ss ss.length)):=by rw[AP rfl,AQ Tryz.func37 b37 rfl (by simp[AN,AH,AJ,A9])];obtain⟨fr,e,q⟩:=A5W c hc s hs G ss hf hl hl2 hfit ss.length 0 (by omega);have q:=fun n m=>q n (m+101) (by omega);rw[show TM s G ss 0=0 from rfl]at q;generalize TM s G ss ss.length=A at *;simp at q;simp[c37,AF,q,e,DB]
omit hs
omit hl2 in
end
theorem WJ(f:Nat->Int):∀n,((bf n).map f).sum=E3 f n
 |0=>rfl
 |n+1=>by rw[bz,List.map_append,List.sum_append,WJ f n];simp[E3]
theorem X3{c:AO}{ss:List (Int×Int)}(hl:ss.length=c.fams.length):E2 c ss=(bf ss.length).map (AY (AR c []) ss):=by
 have hgl:=DE c;refine Z6 (by omega) (by rw[show(E2 c ss).length=c.fams.length from KB hl,hl]) fun j h1=>?_;have hj:j<c.fams.length:=by rw[<-show(E2 c ss).length=c.fams.length from KB hl];exact h1
 have hjs:j<ss.length:=by omega
 have e:=TD (k:=0) (fs:=c.fams) (ss:=ss) j hj hjs h1;rw[Nat.zero_add]at e;refine e.trans ?_;rw[M8];simp only[AY,bk,List.getElem?_map,List.getElem?_range hj,bj hjs,Option.map_some,Option.getD_some,D4,bj hj]
theorem ALN{c:AO}{s:List (List Int)}{ss:List (Int×Int)}(hl:ss.length=c.fams.length):(EN c s (E2 c ss)).sun=TM s (AR c []) ss ss.length/\(EN c s (E2 c ss)).carried=A5U c (AR c []) ss ss.length:=by rw[jU,X3 hl];simp only[List.map_map];exact⟨WJ _ _,WJ _ _⟩
theorem O1{c:AO}{ss:List (Int×Int)}(hs:KG c ss=true):∀x∈E2 c ss,DN c x=true:=by simp only[KG,ZA,bx,decide_eq_true_eq]at hs;exact XW c _ _ hs.2.1
theorem ATZ{c:AO}{ss:List (Int×Int)}(hs:KG c ss=true):∀k,k<ss.length->DN c (AY (AR c []) ss k)=true:=fun k hk=>by
 have hl:ss.length=c.fams.length:=by simp only[KG,bx,decide_eq_true_eq]at hs;exact hs.1
 refine O1 hs _ ?_;rw[X3 hl];exact bb.2 ⟨k,bc.2 hk,rfl⟩
theorem AFH{c:AO}(hc:B7 c){ss:List (Int×Int)}(hs:KG c ss=true):EN c (AX c) (E2 c ss)=EN c (LI c) (E2 c ss):=ABB (gO hc) (O1 hs)
def AT0(c:AO)(ss:List (Int×Int)):Int:=TM (LI c) (AR c []) ss ss.length
def BHE(c:AO)(ss:List (Int×Int)):Int:=A5U c (AR c []) ss ss.length
theorem A5Y{c:AO}(hc:B7 c){ss:List (Int×Int)}(hs:KG c ss=true):(EN c (AX c) (E2 c ss)).sun=AT0 c ss/\(EN c (AX c) (E2 c ss)).carried=BHE c ss:=by
 have hl:ss.length=c.fams.length:=by simp only[KG,bx,decide_eq_true_eq]at hs;exact hs.1
 rw[AFH hc hs];exact ALN hl
theorem AT1{k:Nat}{x:Int}(h:k<=10000):B5 bh 3 k [[i x]]=true:=by rw[B9 (by simp) (by simp)];simp[maxLen];omega
theorem AT2{k:Nat}{x:List Int}(h:k<=10000):B5 bh 22 k [[li x]]=true:=by rw[B9 (by simp) (by simp)];simp[maxLen];omega
theorem nH{b:AM}(hb:Valid b):(BR b).length<=1100:=by have h1:=hb.many;have h2:(BR b).length<=((bf (GQ b.winds)).map (EB b.winds)).length:=List.length_filter_le _ _;rw[List.length_map,List.length_range]at h2;omega
def NA(c:AO)(r n:Nat):List Int:=(bf n).map (N9 c r)
theorem ABS(c:AO)(r n:Nat):NA c r (n+1)=NA c r n++[N9 c r n]:=by simp[NA,bz]
theorem nI(c:AO)(r n:Nat):(NA c r n).length=n:=by simp[NA]
def HX(c:AO)(n:Nat):List (List Int):=(bf n).map fun r=>NA c r c.beach.places.toNat
theorem tN(c:AO)(n:Nat):HX c (n+1)=HX c n++[NA c n c.beach.places.toNat]:=by simp[HX,bz]
theorem gT(c:AO)(n:Nat):(HX c n).length=n:=by simp[HX]
theorem A5Z(c:AO)(hc:B7 c)(hp:FV c.beach c.plan)(r:Nat)(hr:(r:Int)<c.beach.rows)(γ4:Nat)(A:List (List V)):∀(d q cc γ:Nat),q+d=c.beach.places.toNat->∃c' γ',∀n m,d<m->BI (AE bh ann kn (n+3400) 49) aU (ann 49 (BZ aU)) m ⟨cc,[(1,true,.ptr 0 1 0 0),(3,true,.list false ((BR c.beach).map AN)),(4,true,pv 47 γ4 A),(5,true,i r),(6,true,pv 43 γ ((NA c r q).map AH)),(7,true,i q)],⟨[],(1,0,.box (AD c))::(pl 43 γ 3 ((NA c r q).map AH)++pl 47 γ4 22 A)⟩⟩ =
  some (.exit 2,⟨c',[(24,true,.bool false),(23,true,i c.beach.places),(22,true,.ptr 0 1 0 2),(21,true,.ptr 0 1 0 0),(20,true,i c.beach.places),(1,true,.ptr 0 1 0 0),(3,true,.list false ((BR c.beach).map AN)),(4,true,pv 47 γ4 A),(5,true,i r),(6,true,pv 43 γ' ((NA c r c.beach.places.toNat).map AH)),(7,true,i c.beach.places)],⟨[],(1,0,.box (AD c))::(pl 43 γ' 3 ((NA c r c.beach.places.toNat).map AH)++pl 47 γ4 22 A)⟩⟩)
 |0,q,cc,γ,hd=>by
  have hpl:=hc.be.pl;have hq:q=c.beach.places.toNat:=by omega
  have hq':c.beach.places=(q:Int):=by omega
  rw[<-hq];refine⟨cc,γ,fun n m hm=>?_⟩;obtain⟨m,rfl⟩:=qNz m (by omega);rw[AB];generalize NA c r q=R;simp[AD,hq',K3,K4,K5,HD,HE,IH]
 |d+1,q,cc,γ,hd=>by
  have hpl:=hc.be.pl;have hro:=hc.be.ro;have hw:=BS (k:=q) (by omega);have hq':(q:Int)<c.beach.places:=by omega
  have hTl:=nH hc.be;have qB:=fun n=>AFI n hc.be hp r q (by omega) (by omega) (BR c.beach) (fun t ht=>U0 ht) hTl;have hcc:cc<cc+1+1:=by omega
  have eS:(DP DQ ((BR c.beach).map fun t=>(CL c.beach c.plan t r q).good)).1=N9 c r q:=rfl;obtain⟨c',γ',ih⟩:=A5Z c hc hp r hr γ4 A d (q+1) (cc+1+1+1) (cc+1+1) (by omega);rw[ABS]at ih;have happ:=AT1 (k:=(NA c r q).length) (x:=N9 c r q) (by rw[nI];omega);refine⟨c',γ',fun n m hm=>?_⟩;obtain⟨m,rfl⟩:=qNz m (by omega);have ih:=ih n m (by omega);generalize NA c r c.beach.places.toNat=RF at ih|-;generalize NA c r q=R at ih happ|-;generalize DP DQ ((BR c.beach).map fun t=>(CL c.beach c.plan t r q).calm)=B1 at *;generalize DP DQ ((BR c.beach).map fun t=>(CL c.beach c.plan t r q).good)=B2 at *;generalize N9 c r q=S at *;subst eS;generalize BR c.beach=T at *;rw[AB];simp only[AD,AC,F3]at qB ih|-;simp[AH]at ih;simp[hq',hw,hcc,qB,happ,AH,AN,F3,A0,DB,ih,K3,K4,K5,HD,HE,IH]
theorem A50(c:AO)(hc:B7 c)(hp:FV c.beach c.plan):∀(d r cc γ:Nat),r+d=c.beach.rows.toNat->∃fr c' γ',BJ fr 4=some (true,pv 47 γ' ((HX c c.beach.rows.toNat).map AN))/\∀n m,d<m->BI (AE bh ann kn (n+3600) 49) aV (ann 49 (BZ aV)) m ⟨cc,[(1,true,.ptr 0 1 0 0),(3,true,.list false ((BR c.beach).map AN)),(4,true,pv 47 γ ((HX c r).map AN)),(5,true,i r)],⟨[],(1,0,.box (AD c))::pl 47 γ 22 ((HX c r).map AN)⟩⟩ =
  some (.exit 0,⟨c',fr,⟨[],(1,0,.box (AD c))::pl 47 γ' 22 ((HX c c.beach.rows.toNat).map AN)⟩⟩)
 |0,r,cc,γ,hd=>by
  have hro:=hc.be.ro;have hr:r=c.beach.rows.toNat:=by omega
  have hr':¬(r:Int)<c.beach.rows:=by omega
  rw[<-hr];generalize BR c.beach=T;refine⟨?fr,cc,γ,?g1,fun n m hm=>?g2⟩;case g2=>
   obtain⟨m,rfl⟩:=qNz m (by omega)
   rw[AB]
   simp[AD,hr']
   rfl
  case g1=>simp
 |d+1,r,cc,γ,hd=>by
  have hro:=hc.be.ro;have hpl:=hc.be.pl;have hw:=BS (k:=r) (by omega);have hr':(r:Int)<c.beach.rows:=by omega
  obtain⟨c1,γ1,q⟩:=A5Z c hc hp r hr' γ ((HX c r).map AN) c.beach.places.toNat 0 cc 0 (by omega);have q:=fun n m=>q n (m+100) (by omega);obtain⟨fr,c',γ',e1,ih⟩:=A50 c hc hp d (r+1) (c1+1) c1 (by omega);rw[tN]at ih;have h0:NA c r 0=[]:=rfl;rw[h0]at q;have happ:=AT2 (k:=(HX c r).length) (x:=NA c r c.beach.places.toNat) (by rw[gT];omega);have hne:NA c r c.beach.places.toNat≠[]:=by intro e;have:=congrArg List.length e;rw[nI]at this;simp at this;omega
  refine⟨fr,c',γ',e1,fun n m hm=>?_⟩;obtain⟨m,rfl⟩:=qNz m (by omega);have ih:=ih n m (by omega);generalize HX c c.beach.rows.toNat=FF at ih|-;generalize NA c r c.beach.places.toNat=RR at ih q happ hne;generalize BR c.beach=T at *;obtain⟨y,RR,rfl⟩:=bw hne;have htl:∀o,FH 0 43 o (pl 47 γ 22 ((HX c r).map AN))=pl 47 γ 22 ((HX c r).map AN):=fun o=>XL (by decide) _ _ _ (by simp[AN,AH]);have hsl:sl ([i y]::RR.map AH)=.list false ([i y]::RR.map AH):=rfl;rw[AB];simp only[AD]at ih q|-;simp[AN,AH]at ih q;have happ:B5 bh 22 (HX c r).length [[V.list false ([i y]::RR.map AH)]]=true:=happ;simp[hr',hw,AN,AH,q,ih,happ,htl,hsl,K3,K4,K5,HD,HE,IH];try exact ih
theorem AT3(n:Nat)(c:AO)(hc:B7 c):A3 bh kn (AE bh ann kn (n+3800)) 35 [.agg (AD c)]=some (HU (LI c)):=by
 rw[AP rfl,AQ Tryz.func35 b35 rfl (by simp[AD,AW,BH,AS,AH,AN,AJ])];have hro:=hc.be.ro;have hp:=yI hc.pl;have qt:=fun n=>gU n c.beach hc.be;rw[slX hc.tr]at qt;obtain⟨fr,c',γ',e1,q⟩:=A50 c hc hp c.beach.rows.toNat 0 1 0 (by omega);have q:=fun n m=>q n (m+100) (by omega);have h0:HX c 0=[]:=rfl;rw[h0]at q;have hne:HX c c.beach.rows.toNat≠[]:=fun e=>by have:=congrArg List.length e;rw[gT]at this;simp at this;omega
 have hF:LI c=HX c c.beach.rows.toNat:=rfl;rw[hF];generalize HX c c.beach.rows.toNat=F at *;generalize BR c.beach=T at *;simp only[AD,AC]at q qt|-;simp at q;simp[c35,AF,AH,AN,AJ,q,qt,e1];obtain⟨y,F,rfl⟩:=bw hne;rfl
end Go.Proofs.Tryz.Op
