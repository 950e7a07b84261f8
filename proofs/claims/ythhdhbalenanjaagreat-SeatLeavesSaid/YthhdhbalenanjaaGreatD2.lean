/- Contracts of the reference: Enough, IsAllowed. No condition but a valid case, sure hours for each place. -/
import Derived.Test.YthhdhbalenanjaaGreatA2
import Derived.Test.YthhdhbalenanjaaGreatEj
open Go.Proofs.Tryz renaming prog->bb
open List renaming getElem?_eq_getElem->bj,getD_eq_getElem?_getD->bk,exists_cons_of_ne_nil->bq,length_range->bw,range->bx,mem_map->bz
set_option maxRecDepth 100000
set_option linter.unusedSimpArgs false
open Go Go.Pg Go.Proofs Go.Wind
namespace Go.Proofs.Tryz.Op
structure I9(c:AP)(s:List (List Int)):Prop where
 ln:s.length=c.beach.rows.toNat
 rw':∀l∈s,l.length=c.beach.places.toNat
 bd:∀l∈s,∀x∈l,0<=x/\x<=5
theorem mA{c:AP}(hc:B0 c):I9 c (G7 c) where
 ln:=by simp[G7]
 rw':=fun l hl=>by simp only[G7,bz,List.mem_range]at hl;obtain⟨r,_,rfl⟩:=hl;simp
 bd:=fun l hl x hx=>by simp only[G7,bz,List.mem_range]at hl;obtain⟨r,_,rfl⟩:=hl;obtain⟨p,_,rfl⟩:=bz.1 hx;exact lT hc r p
theorem ADI{c:AP}{s:List (List Int)}(_:I9 c s){r p:Nat}(hr:r<s.length)(hp:p<(s[r]).length):DM s (r:Int) (p:Int)=(s[r])[p]:=by unfold DM;rw[bk,bk,Int.toNat_natCast,Int.toNat_natCast,bj hr];simp only[Option.getD_some,bj hp]
theorem A2C(c:AP)(hc:B0 c)(s:List (List Int))(hs:I9 c s)(f r p:Nat)(z:Int)(hf:f<c.fams.length)(hz:0<=z/\z<=4)(hr:(r:Int)<c.beach.rows)(hp:(p:Int)+z<=c.beach.places):∀(d k:Nat),k+d=z.toNat->∃fr,∀n m,d<m->A8 (AE bb ann kn (n+300) 35) ZU (ann 35 (BU ZU)) m ⟨3,[(1,true,FV s),(4,true,.ptr 0 4 0 0),(6,true,.ptr 0 6 1 0),(7,true,.ptr 0 7 2 0),(9,true,i k)],⟨[],[(4,0,.box (AD c)),(6,1,.box (AW (f,z))),(7,2,.box (AQ ((r:Int),(p:Int))))]⟩⟩ =
  if ((bx z.toNat).drop k).all (fun q=>decide ((BO c f).good<=DM s (r:Int) ((p:Int)+(q:Int))))=true then some (.exit 0,⟨3,fr,⟨[],[(4,0,.box (AD c)),(6,1,.box (AW (f,z))),(7,2,.box (AQ ((r:Int),(p:Int))))]⟩⟩) else some (.ret,⟨3,[(8,true,.bool false)],⟨[],[]⟩⟩)
 |0,k,hd=>by
  obtain rfl:k=z.toNat:=by omega
  have hz2:((z.toNat:Nat):Int)=z:=by omega
  rw[List.drop_eq_nil_of_le (by rw[bw];omega),hz2];refine⟨?fr,fun n m hm=>?g9⟩;case g9=>
   obtain⟨m,rfl⟩:=qNz m (by omega)
   rw[AB]
   simp[AD,AW,AQ]
   rfl
 |d+1,k,hd=>by
  have hpl:=hc.be.pl;have hro:=hc.be.ro;have hlt:(k:Int)<z:=by omega
  have hw:=BM (k:=k) (by omega);have hrs:r<s.length:=by rw[hs.ln];omega
  have hrow:=hs.rw' _ (List.getElem_mem hrs);have hpk:p+k<(s[r]).length:=by omega
  have hwp:IntKind.i64.wrap ((p:Int)+(k:Int))=(p:Int)+(k:Int):=AO (by omega) (by omega);have hg:=ADI hs hrs hpk;have hgo:=bj hpk;have e1:((p+k:Nat):Int)=(p:Int)+(k:Int):=by omega
  rw[e1]at hg;have hfm:BO c f=c.fams[f]:=by simp[BO,bj hf]
  have hp0:(0:Int)<=(p:Int)+(k:Int):=by omega
  have hp1:(p:Int)+(k:Int)<((s[r]).length:Int):=by omega
  have hp2:((p:Int)+(k:Int)).toNat=p+k:=by omega
  obtain⟨fr,ih⟩:=A2C c hc s hs f r p z hf hz hr hp d (k+1) (by omega);refine⟨fr,fun n m hm=>?_⟩;obtain⟨m,rfl⟩:=qNz m (by omega);have ih:=ih n m (by omega);rw[List.drop_eq_getElem_cons (by rw[bw];omega),List.all_cons,List.getElem_range,hg,hfm];rw[hfm]at ih;generalize ((bx z.toNat).drop (k+1)).all (fun q=>decide ((c.fams[f]).good<=DM s (r:Int) ((p:Int)+(q:Int))))=zz at ih|-;rw[AB];simp only[AD,AW,AQ]at ih|-;by_cases hb:(c.fams[f]).good<=(s[r])[p+k]
  ·have hb2:¬(s[r])[p+k]<(c.fams[f]).good:=by omega
   cases zz<;>(simp at ih;simp[hlt,hw,hrs,hpk,hwp,hp0,hp1,hp2,hf,hb,hb2,AV,AJ,AS,ih])
  ·have hb2:(s[r])[p+k]<(c.fams[f]).good:=by omega
   simp[hlt,hrs,hpk,hwp,hp0,hp1,hp2,hf,hb,hb2,AV,AJ,AS]
theorem AJ9(n:Nat)(c:AP)(hc:B0 c)(s:List (List Int))(hs:I9 c s)(x:Sp)(hx:ED c x=true)(hf:x.fam<c.fams.length)(hz:0<=x.size/\x.size<=4):AY bb kn (AE bb ann kn (n+400)) 88 [.agg (AD c),FV s,.agg (AW (vN x)),.agg (AQ (spt x))]=some (.bool (CR c s x).enough):=by obtain⟨f,z,r,p⟩:=x;obtain⟨g1,g2,g3,g4⟩:=RT hx;simp only at g1 g2 g3 g4 hf hz;obtain⟨r,rfl⟩:∃k:Nat,r=k:=⟨r.toNat,by omega⟩;obtain⟨p,rfl⟩:∃k:Nat,p=k:=⟨p.toNat,by omega⟩;obtain⟨fr,q⟩:=A2C c hc s hs f r p z hf hz g2 g4 z.toNat 0 (by omega);have q:=fun n m=>q n (m+101) (by omega);rw[AN rfl,AM Tryz.func88 b88 rfl (by simp[AD,AQ,AU,BC,AS,AW])];rw[List.drop_zero,show(bx z.toNat).all (fun q=>decide ((BO c f).good<=DM s (r:Int) ((p:Int)+(q:Int))))=(CR c s ⟨f,z,(r:Int),(p:Int)⟩).enough from rfl]at q;generalize (CR c s ⟨f,z,(r:Int),(p:Int)⟩).enough=zz at *;simp only[AD,AW,AQ,vN,spt]at q|-;cases zz<;>(simp at q;simp[c88,AF,q])
theorem YL{G:List (Nat×Int)}{ss:List (Int×Int)}{k:Nat}(h1:k<G.length)(h2:k<ss.length):A2 G ss k=⟨G[k].1,G[k].2,ss[k].1,ss[k].2⟩:=by simp[A2,bk,bj h1,bj h2]
theorem ADJ{c:AP}{x:Sp}(hx:ED c x=true):∃r p:Nat,x.row=r/\x.place=p/\(r:Int)<c.beach.rows/\(p:Int)+x.size<=c.beach.places:=by obtain⟨g1,g2,g3,g4⟩:=RT hx;exact⟨x.row.toNat,x.place.toNat,by omega,by omega,by omega,by omega⟩
section
variable (c:AP)(hc:B0 c)(s:List (List Int))(hs:I9 c s)(G:List (Nat×Int))(ss:List (Int×Int))(hf:∀g∈G,g.1<c.fams.length/\0<=g.2/\g.2<=4)(hl:ss.length<=G.length)(hl2:ss.length<=100)(hfit:∀k,k<ss.length->ED c (A2 G ss k)=true)
include hc hs hf hl hl2 hfit
omit hl2 in
end
theorem AR1{k:Nat}{x:Int}(h:k<=10000):BW bb 3 k [[i x]]=true:=by rw[BQ (by simp) (by simp)];simp[maxLen];omega
theorem AR2{k:Nat}{x:List Int}(h:k<=10000):BW bb 22 k [[li x]]=true:=by rw[BQ (by simp) (by simp)];simp[maxLen];omega
theorem mB{b:AK}(hb:Valid b):(BL b).length<=1100:=by have h1:=hb.many;have h2:(BL b).length<=((bx (F7 b.winds)).map (DY b.winds)).length:=List.length_filter_le _ _;rw[List.length_map,bw]at h2;omega
def MM(c:AP)(r n:Nat):List Int:=(bx n).map (NI c r)
theorem zW(c:AP)(r n:Nat):MM c r (n+1)=MM c r n++[NI c r n]:=by simp[MM,List.range_succ]
theorem mC(c:AP)(r n:Nat):(MM c r n).length=n:=by simp[MM]
def G8(c:AP)(n:Nat):List (List Int):=(bx n).map fun r=>MM c r c.beach.places.toNat
theorem sB(c:AP)(n:Nat):G8 c (n+1)=G8 c n++[MM c n c.beach.places.toNat]:=by simp[G8,List.range_succ]
theorem fN(c:AP)(n:Nat):(G8 c n).length=n:=by simp[G8]
theorem A2D(c:AP)(hc:B0 c)(hp:FC c.beach c.plan)(r:Nat)(hr:(r:Int)<c.beach.rows)(γ4:Nat)(A:List (List V)):∀(d q cc γ:Nat),q+d=c.beach.places.toNat->∃c' γ',∀n m,d<m->A8 (AE bb ann kn (n+3400) 49) Z4 (ann 49 (BU Z4)) m ⟨cc,[(1,true,.ptr 0 1 0 0),(3,true,.list false ((BL c.beach).map AV)),(4,true,pv 47 γ4 A),(5,true,i r),(6,true,pv 43 γ ((MM c r q).map AJ)),(7,true,i q)],⟨[],(1,0,.box (AD c))::(pl 43 γ 3 ((MM c r q).map AJ)++pl 47 γ4 22 A)⟩⟩ =
  some (.exit 2,⟨c',[(24,true,.bool false),(23,true,i c.beach.places),(22,true,.ptr 0 1 0 2),(21,true,.ptr 0 1 0 0),(20,true,i c.beach.places),(1,true,.ptr 0 1 0 0),(3,true,.list false ((BL c.beach).map AV)),(4,true,pv 47 γ4 A),(5,true,i r),(6,true,pv 43 γ' ((MM c r c.beach.places.toNat).map AJ)),(7,true,i c.beach.places)],⟨[],(1,0,.box (AD c))::(pl 43 γ' 3 ((MM c r c.beach.places.toNat).map AJ)++pl 47 γ4 22 A)⟩⟩)
 |0,q,cc,γ,hd=>by
  have hpl:=hc.be.pl;have hq:q=c.beach.places.toNat:=by omega
  have hq':c.beach.places=(q:Int):=by omega
  rw[<-hq];refine⟨cc,γ,fun n m hm=>?_⟩;obtain⟨m,rfl⟩:=qNz m (by omega);rw[AB];generalize MM c r q=R;simp[AD,hq',KB,IP,HS,UV]
 |d+1,q,cc,γ,hd=>by
  have hpl:=hc.be.pl;have hro:=hc.be.ro;have hw:=BM (k:=q) (by omega);have hq':(q:Int)<c.beach.places:=by omega
  have hTl:=mB hc.be;have qB:=fun n=>ADO n hc.be hp r q (by omega) (by omega) (BL c.beach) (fun t ht=>TN ht) hTl;have hcc:cc<cc+1+1:=by omega
  have eS:(DC DD ((BL c.beach).map fun t=>(CC c.beach c.plan t r q).good)).1=NI c r q:=rfl;obtain⟨c',γ',ih⟩:=A2D c hc hp r hr γ4 A d (q+1) (cc+1+1+1) (cc+1+1) (by omega);rw[zW]at ih;have happ:=AR1 (k:=(MM c r q).length) (x:=NI c r q) (by rw[mC];omega);refine⟨c',γ',fun n m hm=>?_⟩;obtain⟨m,rfl⟩:=qNz m (by omega);have ih:=ih n m (by omega);generalize MM c r c.beach.places.toNat=RF at ih|-;generalize MM c r q=R at ih happ|-;generalize DC DD ((BL c.beach).map fun t=>(CC c.beach c.plan t r q).calm)=B1 at *;generalize DC DD ((BL c.beach).map fun t=>(CC c.beach c.plan t r q).good)=B2 at *;generalize NI c r q=S at *;subst eS;generalize BL c.beach=T at *;rw[AB];simp only[AD,AC,FU]at qB ih|-;simp[AJ]at ih;simp[hq',hw,hcc,qB,happ,AJ,ih,KB,IP,HS,UV]
theorem A2E(c:AP)(hc:B0 c)(hp:FC c.beach c.plan):∀(d r cc γ:Nat),r+d=c.beach.rows.toNat->∃fr c' γ',BG fr 4=some (true,pv 47 γ' ((G8 c c.beach.rows.toNat).map AV))/\∀n m,d<m->A8 (AE bb ann kn (n+3600) 49) Z5 (ann 49 (BU Z5)) m ⟨cc,[(1,true,.ptr 0 1 0 0),(3,true,.list false ((BL c.beach).map AV)),(4,true,pv 47 γ ((G8 c r).map AV)),(5,true,i r)],⟨[],(1,0,.box (AD c))::pl 47 γ 22 ((G8 c r).map AV)⟩⟩ =
  some (.exit 0,⟨c',fr,⟨[],(1,0,.box (AD c))::pl 47 γ' 22 ((G8 c c.beach.rows.toNat).map AV)⟩⟩)
 |0,r,cc,γ,hd=>by
  have hro:=hc.be.ro;have hr:r=c.beach.rows.toNat:=by omega
  have hr':¬(r:Int)<c.beach.rows:=by omega
  rw[<-hr];generalize BL c.beach=T;refine⟨?fr,cc,γ,?g1,fun n m hm=>?g2⟩;case g2=>
   obtain⟨m,rfl⟩:=qNz m (by omega)
   rw[AB]
   simp[AD,hr']
   rfl
  case g1=>simp
 |d+1,r,cc,γ,hd=>by
  have hro:=hc.be.ro;have hpl:=hc.be.pl;have hw:=BM (k:=r) (by omega);have hr':(r:Int)<c.beach.rows:=by omega
  obtain⟨c1,γ1,q⟩:=A2D c hc hp r hr' γ ((G8 c r).map AV) c.beach.places.toNat 0 cc 0 (by omega);have q:=fun n m=>q n (m+100) (by omega);obtain⟨fr,c',γ',e1,ih⟩:=A2E c hc hp d (r+1) (c1+1) c1 (by omega);rw[sB]at ih;have h0:MM c r 0=[]:=rfl;rw[h0]at q;have happ:=AR2 (k:=(G8 c r).length) (x:=MM c r c.beach.places.toNat) (by rw[fN];omega);have hne:MM c r c.beach.places.toNat≠[]:=by intro e;have:=congrArg List.length e;rw[mC]at this;simp at this;omega
  refine⟨fr,c',γ',e1,fun n m hm=>?_⟩;obtain⟨m,rfl⟩:=qNz m (by omega);have ih:=ih n m (by omega);generalize G8 c c.beach.rows.toNat=FF at ih|-;generalize MM c r c.beach.places.toNat=RR at ih q happ hne;generalize BL c.beach=T at *;obtain⟨y,RR,rfl⟩:=bq hne;have htl:∀o,E9 0 43 o (pl 47 γ 22 ((G8 c r).map AV))=pl 47 γ 22 ((G8 c r).map AV):=fun o=>WK (by decide) _ _ _ (by simp);have hsl:sl ([i y]::RR.map AJ)=.list false ([i y]::RR.map AJ):=rfl;rw[AB];simp only[AD]at ih q|-;simp[AV,AJ]at ih q;have happ:BW bb 22 (G8 c r).length [[V.list false ([i y]::RR.map AJ)]]=true:=happ;simp[hr',hw,AV,q,happ,htl,hsl,KB];try exact ih
theorem AR3(n:Nat)(c:AP)(hc:B0 c):AY bb kn (AE bb ann kn (n+3800)) 35 [.agg (AD c)]=some (FV (G7 c)):=by
 rw[AN rfl,AM Tryz.func35 b35 rfl (by simp[AD,AU,BC,AS])];have hro:=hc.be.ro;have hp:=wP hc.pl;have qt:=fun n=>fP n c.beach hc.be;rw[slX hc.tr]at qt;obtain⟨fr,c',γ',e1,q⟩:=A2E c hc hp c.beach.rows.toNat 0 1 0 (by omega);have q:=fun n m=>q n (m+100) (by omega);have h0:G8 c 0=[]:=rfl;rw[h0]at q;have hne:G8 c c.beach.rows.toNat≠[]:=fun e=>by have:=congrArg List.length e;rw[fN]at this;simp at this;omega
 have hF:G7 c=G8 c c.beach.rows.toNat:=rfl;rw[hF];generalize G8 c c.beach.rows.toNat=F at *;generalize BL c.beach=T at *;simp only[AD,AC]at q qt|-;simp at q;simp[c35,AF,q,qt,e1];obtain⟨y,F,rfl⟩:=bq hne;rfl
end Go.Proofs.Tryz.Op
