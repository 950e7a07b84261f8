/- Contracts: play, Play. No condition but a valid beach. -/
import Derived.Test.YtanlhbmliegjeaaGreatW3
open Go.Proofs.Tryz renaming prog->bf
open List renaming getElem?_eq_getElem->bj,getD_eq_getElem?_getD->bk,drop_eq_getElem_cons->bq,getElem?_set_self->bw,ext_getElem->bx,getElem_range->bz,range->bb
set_option maxRecDepth 100000
set_option linter.unusedSimpArgs false
open Go Go.Pg Go.Proofs Go.Wind
namespace Go.Wind
def AAR(x y:IY):IY:=⟨x.sun+y.sun,x.calm+y.calm,x.good+y.good⟩
end Go.Wind
namespace Go.Proofs.Tryz.Op
@[simp] theorem AUG(l k γ i o:Nat):weakV (.eptr l k γ i o)=.eptr l k γ i o:=rfl
@[simp] theorem AKF(f l k γ i o:Nat):AG (f+1) (.eptr l k γ i o)=false:=rfl
theorem iN(L:AA)(k γ:Nat)(r:AX):AA.put L k γ r=(k,γ,r)::L:=rfl
theorem A6W(t:St)(l:List IY):CC t (.vec 60 (l.map DS))=.vec 60 (l.map DS):=L9 fun e he v hv=>by obtain⟨x,_,rfl⟩:=List.mem_map.1 he;simp only[DS,List.mem_cons,List.not_mem_nil,or_false]at hv;rcases hv with rfl|rfl|rfl<;>rfl
theorem AKG(rs:List IY)(p:Nat)(x y z:Int):(rs.map DS).set p [.int .i64 x,.int .i64 y,.int .i64 z]=(rs.set p ⟨x,y,z⟩).map DS:=by rw[List.map_set];rfl
theorem BEU(c γ p:Nat)(B:AX)(rest:AA)(rs:List IY)(hB:∀t,CC t B=B)(hr:∀t,AJ t rest=rest)(hp:p<rs.length)(hγ:γ<c)(y:IY)(w1:IntKind.i64.wrap (rs[p].sun+y.sun)=rs[p].sun+y.sun)(w2:IntKind.i64.wrap (rs[p].calm+y.calm)=rs[p].calm+y.calm)(w3:IntKind.i64.wrap (rs[p].good+y.good)=rs[p].good+y.good):∃X1 X2,∀(n d:Nat) (fr:Fr),GH (BH bf ann kn (n+100)) (some d) ⟨c,fr,⟨[],(3,0,B)::(20,γ,.vec 60 (rs.map DS))::rest⟩⟩ 65 [.eptr 0 20 γ p 0,.agg [i y.sun,i y.calm,i y.good]] =
  some ⟨c+1,(d,true,.tup [])::fr,⟨[],(20,γ,.vec 60 ((rs.set p (AAR rs[p] y)).map DS))::(20,γ,X1)::(20,γ,X2)::(3,0,B)::(20,γ,.vec 60 (rs.map DS))::rest⟩⟩:=by
 refine⟨.vec 60 ((rs.set p ⟨rs[p].sun+y.sun,rs[p].calm+y.calm,rs[p].good⟩).map DS),.vec 60 ((rs.set p ⟨rs[p].sun+y.sun,rs[p].calm,rs[p].good⟩).map DS),fun n d fr=>?_⟩
 rw[A3 Tryz.func65 b65 rfl (by simp[show AG 9 (V.eptr 0 20 γ p 0)=false from rfl])]
 have hg:γ<c+1:=by omega
 have e:(rs.map DS).set p [i (rs[p].sun+y.sun),i (rs[p].calm+y.calm),i (rs[p].good+y.good)]=(rs.set p (AAR rs[p] y)).map DS:=AKG rs p _ _ _
 rw[<-e]
 rw[<-AKG,<-AKG]
 generalize hz:(some _:Option XS)=Z
 simp[c65,AD,DS,hp,hg,w1,w2,w3,iN]
 simp only[AKG,A6W,hB,hr]at hz|-
 exact hz
theorem AF9(b:AL)(plan:List (List Int))(t:List Int)(r p h:Nat):AAR (H9 (JC b plan t r p) (K3 b plan r) h) (U3 b (r,p) h (BR plan h r) (t.getD h 0))=H9 (JC b plan t r p) (K3 b plan r) (h+1):=by
 have e:K3 b plan r h=decide (b.sun.getD h 0=BR plan h r):=by unfold K3;congr 1;exact propext eq_comm
 have e2:JC b plan t r p h=LR b (r,p) (BR plan h r) (t.getD h 0):=rfl;simp only[H9,xN,U3,AAR,<-e,<-e2];have g:∀(f:Nat->Bool),((xN f h:Nat):Int)+(if f h=true then 1 else 0)=((xN f h+if f h=true then 1 else 0:Nat):Int):=fun f=>by split<;>simp
 rw[g,g,g (fun h=>K3 b plan r h&&JC b plan t r p h)]
theorem iO(calm lit:Nat->Bool)(n:Nat):0<=(H9 calm lit n).sun/\(H9 calm lit n).sun<=n/\0<=(H9 calm lit n).calm/\(H9 calm lit n).calm<=n/\0<=(H9 calm lit n).good/\(H9 calm lit n).good<=n:=by have h1:=N4 lit n;have h2:=N4 calm n;have h3:=N4 (fun h=>lit h&&calm h) n;simp only[H9];omega
theorem A6X(b:AL)(s:Int×Int)(h:Nat)(f w:Int):0<=(U3 b s h f w).sun/\(U3 b s h f w).sun<=1/\0<=(U3 b s h f w).calm/\(U3 b s h f w).calm<=1/\0<=(U3 b s h f w).good/\(U3 b s h f w).good<=1:=by unfold U3;simp only;cases decide (b.sun.getD h 0=f)<;>cases LR b s f w<;>simp
theorem AUH(t:St)(k γ:Nat)(T:TypeId)(A:List (List V))(hA:∀e∈A,∀v∈e,BV t v=some v):AJ t (pl k γ T A)=pl k γ T A:=by
 cases A with
 |nil=>rfl
 |cons e es=>
  show AJ t [(k,γ,.vec T (e::es))]=_
  rw[A6,L9 hA];rfl
theorem A6Y(t:St)(b:AL):CC t (.box (AB b))=.box (AB b):=by simp[AB,AH,AN,AM]
def CR(l:List IY):List V:=[.list false (l.map DS)]
theorem AKH(t:St)(A:List (List IY)):∀e∈A.map CR,∀v∈e,BV t v=some v:=by intro e he v hv;obtain⟨l,_,rfl⟩:=List.mem_map.1 he;simp only[CR,List.mem_cons,List.not_mem_nil,or_false]at hv;subst hv;simp[BV,DS]
theorem AGA(b:AL)(hb:Valid b)(plan:List (List Int))(hp:F2 b plan)(t:List Int)(ht:AV t b.winds=true)(r p:Nat)(hr:(r:Int)<b.rows)(hp2:(p:Int)<b.places)(A:List (List IY))(tot:Int)(γ3:Nat):∀(d h c γ:Nat) (rs:List IY),h+d=t.length->(rs.length:Int)=b.places->rs[p]? = some (H9 (JC b plan t r p) (K3 b plan r) h)->γ<c->∀n m,d<m->BG (AE bf ann kn (n+1400) 67) XN (ann 67 (BX XN)) m ⟨c,[(1,true,H6 plan),(2,true,li t),(3,true,.ptr 0 3 0 0),(6,true,pv 63 γ3 (A.map CR)),(7,true,i tot),(8,true,i r),(9,true,.vec 0 20 γ rs.length),(10,true,i p),(14,true,i b.rows),(15,true,i r),(22,true,i rs.length),(23,true,i p),(26,true,li t),(27,true,i t.length),(28,true,i h)],⟨[],(3,0,.box (AB b))::(20,γ,.vec 60 (rs.map DS))::pl 63 γ3 58 (A.map CR)⟩⟩ =
  some (.exit 4,⟨c+d,[(29,true,.bool false),(1,true,H6 plan),(2,true,li t),(3,true,.ptr 0 3 0 0),(6,true,pv 63 γ3 (A.map CR)),(7,true,i tot),(8,true,i r),(9,true,.vec 0 20 γ rs.length),(10,true,i p),(14,true,i b.rows),(15,true,i r),(22,true,i rs.length),(23,true,i p),(26,true,li t),(27,true,i t.length),(28,true,i t.length)],⟨[],(3,0,.box (AB b))::(20,γ,.vec 60 ((rs.set p (B7 b plan t r p)).map DS))::pl 63 γ3 58 (A.map CR)⟩⟩)
 |0,h,c,γ,rs,hd,hl,e,hγ,n,m+1,hm=>by
  have:h=t.length:=by omega
  subst this;have:rs.set p (B7 b plan t r p)=rs:=by
   have hpl:p<rs.length:=by omega
   rw[bj hpl,Option.some.injEq]at e;unfold B7;rw[<-e];exact List.set_getElem_self hpl
  rw[this,AC];simp[AB]
 |d+1,h,c,γ,rs,hd,hl,e,hγ,n,m+1,hm=>by
  have hd':h<t.length:=by omega
  have hw:=BS (k:=h) (by have:=CK ht;have:=hb.hl;omega);have hlw:=CK ht;have hwi:=hb.wi;have hsu:=hb.su;have hpn:=hp.len;have hh:h<plan.length:=by omega
  have hpe:plan.getD h []=plan[h]:=by rw[bk,bj hh];rfl
  have hr2:r<plan[h].length:=by have:=hp.row h hh;rw[hpe]at this;omega
  have hx:BR plan h r=plan[h][r]:=by unfold BR;rw[hpe,bk,bj hr2];rfl
  have htd:t.getD h 0=t[h]:=by rw[bk,bj hd'];rfl
  have hdir:=YR hb ht hd';rw[htd,DV]at hdir;have hro:=hb.ro;have hpc:=hb.pl;have q:=fun n=>kOf n b hb (r,p) (by simp only;omega) h (by omega) (BR plan h r) t[h] hdir;rw[hx]at q;have hpl:p<rs.length:=by omega
  rw[bj hpl,Option.some.injEq]at e;have st:=AF9 b plan t r p h;rw[hx,htd,<-e]at st;have b1:=iO (JC b plan t r p) (K3 b plan r) h;have b2:=A6X b (r,p) h plan[h][r] t[h];rw[<-e]at b1;have hh5:h<=5:=by have:=hb.la;omega
  generalize U3 b (r,p) h plan[h][r] t[h]=y at q st b2;obtain⟨X1,X2,q2⟩:=BEU c γ p (.box (AB b)) (pl 63 γ3 58 (A.map CR)) rs (fun t=>A6Y t b) (fun t=>AUH t 63 γ3 58 _ (AKH t A)) hpl hγ y (AW (by omega) (by omega)) (AW (by omega) (by omega)) (AW (by omega) (by omega));have ih:=AGA b hb plan hp t ht r p hr hp2 A tot γ3 d (h+1) (c+1) γ (rs.set p (AAR rs[p] y)) (by omega) (by simpa using hl) (by rw[bw hpl,st]) (by omega) n m (by omega);rw[List.set_set]at ih;generalize rs.set p (B7 b plan t r p)=F at ih|-;generalize hR:rs.set p (AAR rs[p] y)=R at ih q2;have hRl:R.length=rs.length:=by rw[<-hR];simp
  have hc':c+1+d=c+(d+1):=by omega
  rw[hRl,hc']at ih;rw[AC];simp only[AB,AM]at q q2 ih|-;simp at ih;simp[hd',hw,AH,AN,hh,hr2,q,AM,DS,ED,hpl,q2,ih]
def FE(b:AL)(plan:List (List Int))(t:List Int)(r:Nat):Nat->Int
 |0=>0
 |p+1=>FE b plan t r p+(B7 b plan t r p).good
theorem U4(b:AL)(plan:List (List Int))(t:List Int)(r:Nat):∀p,0<=FE b plan t r p/\FE b plan t r p<=p*t.length
 |0=>by simp[FE]
 |p+1=>by
  have h1:=U4 b plan t r p;have h2:=iO (JC b plan t r p) (K3 b plan r) t.length;simp only[FE,B7];have e:((p+1:Nat):Int)*(t.length:Int)=(p:Int)*t.length+t.length:=by rw[Int.natCast_succ,Int.add_mul,Int.one_mul]
  omega
def MC(b:AL)(plan:List (List Int))(t:List Int)(r p:Nat):List IY:=(bb b.places.toNat).map fun j=>if j<p then B7 b plan t r j else⟨0,0,0⟩
def P1(b:AL)(plan:List (List Int))(t:List Int)(r:Nat):List IY:=(bb b.places.toNat).map (B7 b plan t r)
theorem S9(b:AL)(plan:List (List Int))(t:List Int)(r p:Nat):(MC b plan t r p).length=b.places.toNat:=by simp[MC]
theorem AGB{b:AL}{plan:List (List Int)}{t:List Int}{r p:Nat}(h:p<b.places.toNat):(MC b plan t r p)[p]? = some ⟨0,0,0⟩:=by simp[MC,h]
theorem oG{b:AL}{plan:List (List Int)}{t:List Int}{r p:Nat}:(MC b plan t r p).set p (B7 b plan t r p)=MC b plan t r (p+1):=by
 apply bx (by simp[MC]);intro j h1 h2;simp only[MC,List.getElem_set,List.getElem_map,bz];by_cases e:p=j
 ·subst e;simp
 ·rw[if_neg e];have:(j<p)=(j<p+1):=propext ⟨fun h=>by omega,fun h=>by omega⟩;simp only[this]
theorem AAS(b:AL)(plan:List (List Int))(t:List Int)(r:Nat):MC b plan t r b.places.toNat=P1 b plan t r:=by
 apply bx (by simp[MC,P1]);intro j h1 h2;have:j<b.places.toNat:=by simpa [MC]using h1
 simp only[MC,P1,List.getElem_map,bz,if_pos this]
theorem AAT(b:AL)(plan:List (List Int))(t:List Int)(r:Nat):MC b plan t r 0=List.replicate b.places.toNat ⟨0,0,0⟩:=by apply bx (by simp[MC]);intro j h1 h2;simp[MC]
theorem AGC(b:AL)(hb:Valid b)(plan:List (List Int))(hp:F2 b plan)(t:List Int)(ht:AV t b.winds=true)(r:Nat)(hr:(r:Int)<b.rows)(A:List (List IY))(tot:Int)(htot:0<=tot/\tot<=1000)(γ3 γ:Nat):∀(d p c:Nat),p+d=b.places.toNat->γ<c->∃c',γ<c'/\∀n m,d<m->BG (AE bf ann kn (n+1600) 67) XO (ann 67 (BX XO)) m ⟨c,[(1,true,H6 plan),(2,true,li t),(3,true,.ptr 0 3 0 0),(6,true,pv 63 γ3 (A.map CR)),(7,true,i (tot+FE b plan t r p)),(8,true,i r),(9,true,.vec 0 20 γ b.places.toNat),(14,true,i b.rows),(15,true,i r),(22,true,i b.places.toNat),(23,true,i p)],⟨[],(3,0,.box (AB b))::(20,γ,.vec 60 ((MC b plan t r p).map DS))::pl 63 γ3 58 (A.map CR)⟩⟩ =
  some (.exit 2,⟨c',[(24,true,.bool false),(1,true,H6 plan),(2,true,li t),(3,true,.ptr 0 3 0 0),(6,true,pv 63 γ3 (A.map CR)),(7,true,i (tot+FE b plan t r b.places.toNat)),(8,true,i r),(9,true,.vec 0 20 γ b.places.toNat),(14,true,i b.rows),(15,true,i r),(22,true,i b.places.toNat),(23,true,i b.places.toNat)],⟨[],(3,0,.box (AB b))::(20,γ,.vec 60 ((P1 b plan t r).map DS))::pl 63 γ3 58 (A.map CR)⟩⟩)
 |0,p,c,hd,hγ=>by
  have:p=b.places.toNat:=by omega
  subst this;refine⟨c,hγ,fun n m hm=>?_⟩;obtain⟨m,rfl⟩:=qNz m (by omega);rw[AAS,AC];simp[AB]
 |d+1,p,c,hd,hγ=>by
  have hpc:=hb.pl;have hla:=hb.la;have hlw:=CK ht;have hwi:=hb.wi;have hw:=BS (k:=p) (by omega);have hp':p<b.places.toNat:=by omega
  obtain⟨c',h1,ih⟩:=AGC b hb plan hp t ht r hr A tot htot γ3 γ d (p+1) (c+t.length) (by omega) (by omega);have q:=AGA b hb plan hp t ht r p hr (by omega) A (tot+FE b plan t r p) γ3 t.length 0 c γ (MC b plan t r p) (by omega) (by rw[S9];omega) (AGB hp') hγ;rw[oG,S9]at q;have q:=fun n m=>q n (m+100) (by omega);have hg:(MC b plan t r (p+1))[p]? = some (B7 b plan t r p):=by rw[<-oG,bw (by rw[S9];exact hp')]
  have hl:=S9 b plan t r (p+1);have b1:=U4 b plan t r p;have b2:=iO (JC b plan t r p) (K3 b plan r) t.length;have b3:(p:Int)*t.length<=5*5:=Int.mul_le_mul (by omega) (by omega) (by omega) (by omega);have e1:tot+FE b plan t r (p+1)=tot+FE b plan t r p+(B7 b plan t r p).good:=by simp only[FE];omega
  have hwt:IntKind.i64.wrap (tot+FE b plan t r p+(B7 b plan t r p).good)=tot+FE b plan t r p+(B7 b plan t r p).good:=AW (by unfold B7;omega) (by unfold B7;omega);rw[e1]at ih;refine⟨c',h1,fun n m hm=>?_⟩;obtain⟨m,rfl⟩:=qNz m (by omega);have ih:=ih n m (by omega);generalize MC b plan t r (p+1)=R at ih q hg hl;generalize MC b plan t r p=R0 at q|-;have hgl:p<R.length:=by omega
  rw[bj hgl,Option.some.injEq]at hg;generalize B7 b plan t r p=y at *;generalize FE b plan t r b.places.toNat=TT at ih|-;generalize P1 b plan t r=RR at ih|-;generalize b.places.toNat=PP at hp' hl ih q|-;rw[AC];simp only[AB]at q ih|-;simp at ih q;have hle:PP<=R.length:=by omega
  simp[hp',hw,hwt,hgl,hle,hg,DS,ED,q,ih]
def IH(b:AL)(plan:List (List Int))(t:List Int):Nat->Int
 |0=>0
 |r+1=>IH b plan t r+FE b plan t r b.places.toNat
theorem fA(b:AL)(hb:Valid b)(plan:List (List Int))(t:List Int)(h5:t.length<=5):∀r,r<=3->0<=IH b plan t r/\IH b plan t r<=r*25
 |0,_=>by simp[IH]
 |r+1,h=>by have h1:=fA b hb plan t h5 r (by omega);have h2:=U4 b plan t r b.places.toNat;have:=hb.pl;have b3:(b.places.toNat:Int)*t.length<=5*5:=Int.mul_le_mul (by omega) (by omega) (by omega) (by omega);simp only[IH];omega
def D6(b:AL)(plan:List (List Int))(t:List Int)(n:Nat):List (List IY):=(bb n).map (P1 b plan t)
theorem sV(b:AL)(plan:List (List Int))(t:List Int)(n:Nat):D6 b plan t (n+1)=D6 b plan t n++[P1 b plan t n]:=by simp[D6,List.range_succ]
theorem A6Z{k:Nat}{x:List IY}(h:k<=10000):CG bf 58 k [CR x]=true:=by rw[C3 (by simp[CR]) (by simp)];simp[maxLen,CR];omega
theorem AGD(b:AL)(hb:Valid b)(plan:List (List Int))(hp:F2 b plan)(t:List Int)(ht:AV t b.winds=true):∀(d r c γ3:Nat),r+d=b.rows.toNat->0<c->∃fr c' γ',(BQ fr 6=some (true,pv 63 γ' ((D6 b plan t b.rows.toNat).map CR))/\BQ fr 7=some (true,i (IH b plan t b.rows.toNat)))/\∀n m,d<m->BG (AE bf ann kn (n+1800) 67) XP (ann 67 (BX XP)) m ⟨c,[(1,true,H6 plan),(2,true,li t),(3,true,.ptr 0 3 0 0),(6,true,pv 63 γ3 ((D6 b plan t r).map CR)),(7,true,i (IH b plan t r)),(14,true,i b.rows),(15,true,i r)],⟨[],(3,0,.box (AB b))::pl 63 γ3 58 ((D6 b plan t r).map CR)⟩⟩ =
  some (.exit 0,⟨c',fr,⟨[],(3,0,.box (AB b))::pl 63 γ' 58 ((D6 b plan t b.rows.toNat).map CR)⟩⟩)
 |0,r,c,γ3,hd,hc=>by
  have hr:r=b.rows.toNat:=by omega
  have hro:=hb.ro;have hr':b.rows=(r:Int):=by omega
  rw[<-hr];refine⟨?fr,c,γ3,?g1,fun n m hm=>?g2⟩;case g2=>
   obtain⟨m,rfl⟩:=qNz m (by omega)
   rw[AC]
   simp[AB,hr']
   rfl
  case g1=>simp
 |d+1,r,c,γ3,hd,hc=>by
  have hro:=hb.ro;have hpc:=hb.pl;have hw:=BS (k:=r) (by omega);have hr':(r:Int)<b.rows:=by omega
  have hla:=hb.la;have hlw:=CK ht;have hwi:=hb.wi;have b1:=fA b hb plan t (by omega) r (by omega);obtain⟨c1,h1,q⟩:=AGC b hb plan hp t ht r hr' (D6 b plan t r) (IH b plan t r) (by omega) γ3 c b.places.toNat 0 (c+1) (by omega) (by omega);have q:=fun n m=>q n (m+100) (by omega);obtain⟨fr,c',γ',e1,ih⟩:=AGD b hb plan hp t ht d (r+1) (c1+1) c1 (by omega) (by omega);have e:IH b plan t (r+1)=IH b plan t r+FE b plan t r b.places.toNat:=rfl;have happ:=A6Z (k:=(D6 b plan t r).length) (x:=P1 b plan t r) (by simp[D6];omega);rw[AAT]at q;rw[sV,e]at ih;refine⟨fr,c',γ',e1,fun n m hm=>?_⟩;obtain⟨m,rfl⟩:=qNz m (by omega);have ih:=ih n m (by omega);have h0:FE b plan t r 0=0:=rfl;rw[h0]at q;generalize D6 b plan t b.rows.toNat=FF at ih|-;generalize FE b plan t r b.places.toNat=TT at ih q;have hRl:(P1 b plan t r).length=b.places.toNat:=by simp[P1]
  generalize P1 b plan t r=RR at ih q happ hRl;obtain⟨PP,hPP⟩:∃P:Nat,b.places=P:=⟨b.places.toNat,by omega⟩;have hP2:b.places.toNat=PP:=by omega
  rw[hP2]at q hRl;subst hRl;rw[AC];simp only[AB,hPP]at q ih|-;simp[CR]at ih q happ;simp[DS]at q;have m1:RR.length*24<=140737488355328:=by omega
  have m2:RR.length<=maxLen:=by simp[maxLen];omega
  have htl:∀o,FI 0 20 o (pl 63 γ3 58 ((D6 b plan t r).map CR))=pl 63 γ3 58 ((D6 b plan t r).map CR):=fun o=>eR (by decide) _ _ _ (by simp[CR,DS]);simp[hr',hw,CR,q,ih,happ,m1,m2,htl]
theorem A60(n:Nat)(b:AL)(hb:Valid b)(plan:List (List Int))(hp:F2 b plan)(t:List Int)(ht:AV t b.winds=true):AZ bf kn (AE bf ann kn (n+2000)) 36 [.agg (AB b),H6 plan,li t]=some (.tup [sl ((D6 b plan t b.rows.toNat).map CR),i (IH b plan t b.rows.toNat)]):=by rw[AP rfl,AQ Tryz.func36 b36 rfl (by simp[AB,AH,AN,AM])];have hro:=hb.ro;obtain⟨fr,c',γ',⟨e1,e2⟩,q⟩:=AGD b hb plan hp t ht b.rows.toNat 0 1 0 (by omega) (by omega);have q:=fun n m=>q n (m+100) (by omega);have h0:D6 b plan t 0=[]:=rfl;have h1:IH b plan t 0=0:=rfl;rw[h0,h1]at q;generalize D6 b plan t b.rows.toNat=FF at *;generalize IH b plan t b.rows.toNat=TT at *;simp only[AB]at q|-;simp at q;simp[c36,AD,q,e1,e2];simp[CR,DS]
def oH(b:AL)(plan:List (List Int))(t:List Int):List (List IY)×Int :=
 if C6 b≠0 then([],C6 b) else if C5 b plan=true/\AV t b.winds=true then(D6 b plan t b.rows.toNat,0) else([],2)
theorem AGE(n:Nat)(b:AL)(h40:∀l∈b.winds,l.length<=40)(plan:List (List Int))(t:List Int):AZ bf kn (AE bf ann kn (n+2200)) 13 [.agg (AB b),H6 plan,li t]=some (.tup [sl ((oH b plan t).1.map CR),i (oH b plan t).2]):=by
 rw[AP rfl,AQ Tryz.func13 b13 rfl (by simp[AB,AH,AN,AM])];have q1:=fun n=>bG n b h40;unfold oH;by_cases h:C6 b=0
 ·have hb:=LP h;have q2:=fun n=>iM n b hb plan;have q3:=fun n=>AAQ n b hb t;rw[if_neg (by simp[h])];rw[h]at q1;by_cases h2:C5 b plan=true
  ·by_cases h3:AV t b.winds=true
   ·have q4:=fun n=>A60 n b hb plan (WF h2) t h3;rw[if_pos ⟨h2,h3⟩];rw[h2]at q2;rw[h3]at q3;simp only[AB]at q1 q2 q3 q4|-;simp[c13,AD,AH,AN,AM,q1,q2,q3,q4];simp[CR,DS]
   ·rw[if_neg (fun h=>h3 h.2)];have h3:AV t b.winds=false:=by simpa using h3
    rw[h2]at q2;rw[h3]at q3;simp only[AB]at q1 q2 q3|-;simp[c13,AD,AH,AN,AM,q1,q2,q3];try rfl
  ·rw[if_neg (fun h=>h2 h.1)];have h2:C5 b plan=false:=by simpa using h2
   rw[h2]at q2;simp only[AB]at q1 q2|-;simp[c13,AD,AH,AN,AM,q1,q2];try rfl
 ·rw[if_pos h];simp only[AB]at q1|-;simp[c13,AD,AH,AN,AM,q1,h];try rfl
theorem AKI{j k m:Nat}(h1:j≠m)(h2:k≠m)(γ:Nat)(T:TypeId)(es:List (List V))(x:Nat×AX):(pl j γ T es++[(k,x)]).get m=none:=by cases es<;>simp[h1.symm,h2.symm]
theorem BEV{k:Nat}{x:Int×Int}(h:k<=10000):CG bf 87 k [[i x.1,i x.2]]=true:=by rw[C3 (by simp) (by simp)];simp[maxLen];omega
theorem BEW{k:Nat}{x:Int×Int}(h:k<=10000):CG bf 92 k [[i x.1,i x.2]]=true:=by rw[C3 (by simp) (by simp)];simp[maxLen];omega
def iP(b:AL)(x y:V):AX:=.box [i b.last,i b.rows,i b.places,i b.reach,li b.face,li b.sun,H6 b.winds,x,y]
theorem wS(b:AL)(Z:AX)(hl:b.breaks.length<=100):∀(d k c γ:Nat) (acc:List (Int×Int)),k+d=b.breaks.length->acc.length<=k->2<c->∃c' γ',2<c'/\∀n m,d<m->BG (AE bf ann kn (n+400) 68) XQ (ann 68 (BX XQ)) m ⟨c,[(1,true,.ptr 0 1 0 0),(2,true,.ptr 0 2 1 0),(3,true,.ptr 0 3 2 0),(4,true,i k)],⟨[],(1,0,.box (AB b))::(2,1,Z)::(3,2,iP b (pv 40 γ (acc.map AM)) .nil)::pl 40 γ 87 (acc.map AM)⟩⟩ =
  some (.exit 0,⟨c',[(28,true,.bool false),(27,true,i b.breaks.length),(26,true,.list false (b.breaks.map AM)),(25,true,.ptr 0 1 0 7),(24,true,i b.breaks.length),(1,true,.ptr 0 1 0 0),(2,true,.ptr 0 2 1 0),(3,true,.ptr 0 3 2 0),(4,true,i b.breaks.length)],⟨[],(1,0,.box (AB b))::(2,1,Z)::(3,2,iP b (pv 40 γ' ((acc++b.breaks.drop k).map AM)) .nil)::pl 40 γ' 87 ((acc++b.breaks.drop k).map AM)⟩⟩)
 |0,k,c,γ,acc,hk,ha,hc=>by
  have:k=b.breaks.length:=by omega
  subst this;refine⟨c,γ,hc,fun n m hm=>?_⟩;obtain⟨m,rfl⟩:=qNz m (by omega);rw[List.drop_length,List.append_nil,AC];simp[AB,iP]
 |d+1,k,c,γ,acc,hk,ha,hc=>by
  have hk':k<b.breaks.length:=by omega
  have hw:=BS (k:=k) (by omega);have q:=fun n=>AUA n b.breaks[k];have happ:=BEV (k:=acc.length) (x:=b.breaks[k]) (by omega);obtain⟨c',γ',h1,ih⟩:=wS b Z hl d (k+1) (c+1) c (acc++[b.breaks[k]]) (by omega) (by simp;omega) (by omega);have hgo:acc++b.breaks.drop k=acc++[b.breaks[k]]++b.breaks.drop (k+1):=by rw[bq hk'];simp
  rw[<-hgo]at ih;refine⟨c',γ',h1,fun n m hm=>?_⟩;obtain⟨m,rfl⟩:=qNz m (by omega);have ih:=ih n m (by omega);have hc2:2<c+1:=by omega
  generalize acc++b.breaks.drop k=fin at ih|-;rw[AC];simp only[AB,iP]at ih|-;simp[AM]at ih q;simp[hk',hw,AM,q,happ,ED,IL,iN,hc2,ih]
theorem wT(b:AL)(Z:AX)(hl:b.notes.length<=100)(γ0:Nat)(A:List (List V)):∀(d k c γ:Nat) (acc:List (Int×Int)),k+d=b.notes.length->acc.length<=k->2<c->∃c' γ',2<c'/\∀n m,d<m->BG (AE bf ann kn (n+400) 68) XR (ann 68 (BX XR)) m ⟨c,[(1,true,.ptr 0 1 0 0),(2,true,.ptr 0 2 1 0),(3,true,.ptr 0 3 2 0),(5,true,i k)],⟨[],(1,0,.box (AB b))::(2,1,Z)::(3,2,iP b (pv 40 γ0 A) (pv 65 γ (acc.map AM)))::(pl 40 γ0 87 A++pl 65 γ 92 (acc.map AM))⟩⟩ =
  some (.exit 2,⟨c',[(46,true,.bool false),(45,true,i b.notes.length),(44,true,.list false (b.notes.map AM)),(43,true,.ptr 0 1 0 8),(42,true,i b.notes.length),(1,true,.ptr 0 1 0 0),(2,true,.ptr 0 2 1 0),(3,true,.ptr 0 3 2 0),(5,true,i b.notes.length)],⟨[],(1,0,.box (AB b))::(2,1,Z)::(3,2,iP b (pv 40 γ0 A) (pv 65 γ' ((acc++b.notes.drop k).map AM)))::(pl 40 γ0 87 A++pl 65 γ' 92 ((acc++b.notes.drop k).map AM))⟩⟩)
 |0,k,c,γ,acc,hk,ha,hc=>by
  have:k=b.notes.length:=by omega
  subst this;refine⟨c,γ,hc,fun n m hm=>?_⟩;obtain⟨m,rfl⟩:=qNz m (by omega);rw[List.drop_length,List.append_nil,AC];simp[AB,iP,sF,sG,sH,WP,WQ,iG]
 |d+1,k,c,γ,acc,hk,ha,hc=>by
  have hk':k<b.notes.length:=by omega
  have hw:=BS (k:=k) (by omega);have happ:=BEW (k:=acc.length) (x:=b.notes[k]) (by omega);obtain⟨c',γ',h1,ih⟩:=wT b Z hl γ0 A d (k+1) (c+1) c (acc++[b.notes[k]]) (by omega) (by simp;omega) (by omega);have hgo:acc++b.notes.drop k=acc++[b.notes[k]]++b.notes.drop (k+1):=by rw[bq hk'];simp
  rw[<-hgo]at ih;refine⟨c',γ',h1,fun n m hm=>?_⟩;obtain⟨m,rfl⟩:=qNz m (by omega);have ih:=ih n m (by omega);have hc2:2<c+1:=by omega
  generalize acc++b.notes.drop k=fin at ih|-;rw[AC];simp only[AB,iP]at ih|-;simp[AM]at ih;simp[hk',hw,AM,happ,ED,IL,iN,hc2,sF,sG,sH,WP,WQ,iG,AJL,AR3,AKI,ih]
theorem eW{f:Nat}{l:List (List V)}(h:AG f (.list false l)=true)(hf:f≠0):AG f (sl l)=true:=by
 cases l with
 |nil=>
  cases f with
  |zero=>exact absurd rfl hf
  |succ f=>rfl
 |cons e es=>exact h
theorem AGF(n:Nat)(b:AL)(hf:b.face.length<=100)(hs:b.sun.length<=100)(hw:b.winds.length<=100)(h1:∀l∈b.winds,l.length<=100)(hb:b.breaks.length<=100)(hn:b.notes.length<=100):AZ bf kn (AE bf ann kn (n+600)) 11 [.agg (AB b)]=some (.agg (IG b)):=by
 rw[AP rfl,AQ Tryz.func11 b11 rfl (by simp[AB,AH,AN,AM])];have q1:=fun n=>AFZ n b.face hf;have q2:=fun n=>AFZ n b.sun hs;have q3:=fun n=>AT9 n b.winds hw h1;obtain⟨c1,γ1,g1,r1⟩:=wS b (.box [i 0,i 0,i 0,i 0,.nil,.nil,.nil,.nil,.nil]) hb b.breaks.length 0 3 0 [] (by omega) (by simp) (by omega);have r1:=fun n m=>r1 n (m+200) (by omega);rw[List.drop_zero,List.nil_append]at r1;obtain⟨c2,γ2,g2,r2⟩:=wT b (.box [i 0,i 0,i 0,i 0,.nil,.nil,.nil,.nil,.nil]) hn γ1 (b.breaks.map AM) b.notes.length 0 c1 0 [] (by omega) (by simp) (by omega);have r2:=fun n m=>r2 n (m+200) (by omega);rw[List.drop_zero,List.nil_append]at r2;simp only[AB,IG,iP]at r1 r2|-;simp at r1 r2;have g3:1<c2:=by omega
 simp[c11,AD,AH,AN,q1,q2,q3,r1,r2,iN,g3,sF,sG,sH,WP,WQ,iG];rw[PM (T:=87) 2 _ 40 γ1 _ (by simp[WQ]),PM (T:=92) 2 _ 65 γ2 _ (by simp[WP])];have hcl:∀l:List (Int×Int),AG 8 (sl (l.map AM))=true:=fun l=>eW (by simp[AM]) (by decide);simp[AH,AN,hcl]
end Go.Proofs.Tryz.Op
