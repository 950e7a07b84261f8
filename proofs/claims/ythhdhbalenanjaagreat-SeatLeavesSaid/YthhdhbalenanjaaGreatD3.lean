/- Contract of the reference: Reach. No condition but a valid case, sure hours for each place. -/
import Derived.Test.YthhdhbalenanjaaGreatD2
import Derived.Test.YthhdhbalenanjaaGreatA3
open Go.Proofs.Tryz renaming prog->ck
open Bool renaming and_eq_true->bj,false_or->bp
open List renaming getElem?_eq_getElem->bk,mem_range->bq,length_map->bw,all_eq_true->bz,drop_eq_getElem_cons->bb,drop_eq_nil_of_le->bc,getElem_mem->bf,length_take->bg,mem_singleton->bm,length_append->bn,mem_map->bt,range->cj
open Nat renaming pow_le_pow_right->bx,le_refl->bh
set_option maxRecDepth 100000
set_option linter.unusedSimpArgs false
open Go Go.Pg Go.Proofs Go.Wind
namespace Go.Proofs.Tryz.Op
def IU(p:Nat->Bool):Nat->Nat->Bool
 |0,_=>false
 |e+1,j=>p j||IU p e (j+1)
theorem R5{p:Nat->Bool}:∀{e j:Nat},IU p e j=true↔∃q,j<=q/\q<j+e/\p q=true
 |0,j=>by
  constructor
  ·intro h;cases h
  ·rintro ⟨q,h1,h2,_⟩;omega
 |e+1,j=>by
  show(p j||IU p e (j+1))=true↔_;rw[Bool.or_eq_true,R5];constructor
  ·rintro (h|⟨q,h1,h2,h3⟩)
   ·exact⟨j,by omega,by omega,h⟩
   ·exact⟨q,by omega,by omega,h3⟩
  ·rintro ⟨q,h1,h2,h3⟩;by_cases e':q=j
   ·exact .inl (e'▸h3)
   ·exact .inr ⟨q,by omega,by omega,h3⟩
def A2F(c:AP)(s:List (List Int))(G:List (Nat×Int))(out:List (Int×Int))(r p:Nat):Bool :=
 JH c G (out++[((r:Int),(p:Int))]) out.length&&(CR c s (A2 G (out++[((r:Int),(p:Int))]) out.length)).enough
def HZ(c:AP)(s:List (List Int))(G:List (Nat×Int))(rec:List (Int×Int)->Bool)(out:List (Int×Int))(r p:Nat):Bool:=A2F c s G out r p&&rec (out++[((r:Int),(p:Int))])
def K9(c:AP)(s:List (List Int))(G:List (Nat×Int)):Nat->List (Int×Int)->Bool
 |0,_=>true
 |e+1,out=>IU (fun r=>IU (HZ c s G (K9 c s G e) out r) c.beach.places.toNat 0) c.beach.rows.toNat 0
theorem AR4{k:Nat}{x:Int×Int}(h:k<=10000):BW ck 59 k [[i x.1,i x.2]]=true:=by rw[BQ (by simp) (by simp)];simp[maxLen];omega
theorem ADK{ss:List (Int×Int)}(h:ss.length<=10000):BW ck 59 0 (ss.map AQ)=true:=by
 cases ss with
 |nil=>rfl
 |cons x l=>
  rw[BQ (by simp) (by simp)]
  simp[maxLen,AQ]at h|-;omega
section
variable (c:AP)(hc:B0 c)(s:List (List Int))(hs:I9 c s)(G:List (Nat×Int))(hG:G.length<=10)(hf:∀g∈G,g.1<c.fams.length/\1<=g.2/\g.2<=4)(out:List (Int×Int))(hl:out.length<G.length)(ho:∀x∈out,0<=x.2/\x.2<=1000)(rec:List (Int×Int)->Bool)(K:Nat)
 (hrec:∀x:Int×Int,0<=x.2->x.2<=1000->∀j n,AY ck kn (AE ck ann kn (n+K+j)) 133 [.agg (AD c),FV s,.list false (G.map AW),.list false ((out++[x]).map AQ)]=some (.bool (rec (out++[x]))))
include hc hs hG hf hl ho hrec
theorem A2G(r:Nat)(hr:(r:Int)<c.beach.rows):∀(d p cc:Nat),p+d=c.beach.places.toNat->∃fr c',BG fr 1=some (true,FV s)/\BG fr 2=some (true,.list false (G.map AW))/\BG fr 3=some (true,.list false (out.map AQ))/\BG fr 4=some (true,.ptr 0 4 0 0)/\BG fr 9=some (true,i r) /\
  ∀n m,d<m->A8 (AE ck ann kn (n+K+1300) 65) S8 (ann 65 (BU S8)) m ⟨cc,[(1,true,FV s),(2,true,.list false (G.map AW)),(3,true,.list false (out.map AQ)),(4,true,.ptr 0 4 0 0),(9,true,i r),(10,true,i p)],⟨[],[(4,0,.box (AD c))]⟩⟩ =
   if IU (HZ c s G rec out r) d p=true then some (.ret,⟨c',[(8,true,.bool true)],⟨[],[]⟩⟩) else some (.exit 2,⟨c',fr,⟨[],[(4,0,.box (AD c))]⟩⟩)
 |0,p,cc,hd=>by
  have hpl:=hc.be.pl;have hp':¬(p:Int)<c.beach.places:=by omega
  refine⟨?fr,cc,?g1,?g2,?g3,?g4,?g5,fun n m hm=>?g9⟩;case g9=>
   obtain⟨m,rfl⟩:=qNz m (by omega)
   rw[if_neg (by simp[IU]),AB]
   simp[AD,hp']
   rfl
  all_goals simp
 |d+1,p,cc,hd=>by
  have hpl:=hc.be.pl;have hro:=hc.be.ro;have hp':(p:Int)<c.beach.places:=by omega
  have hw:=BM (k:=p) (by omega);have ha0:BW ck 59 0 []=true:=ADK (ss:=[]) (by simp);have ha1:=ADK (ss:=out) (by omega);have ha2:=AR4 (k:=out.length) (x:=((r:Int),(p:Int))) (by omega);have hla:(out++[((r:Int),(p:Int))]).length=out.length+1:=by simp
  have hsa:A2 G (out++[((r:Int),(p:Int))]) out.length=⟨G[out.length].1,G[out.length].2,(r:Int),(p:Int)⟩:=by rw[YL hl (by rw[hla];omega)];simp
  have hfk:=hf _ (bf hl);have hoi:(out.length:Int)<(out.length:Int)+1:=by omega
  have qS:=fun n=>A11 n c (by omega) (by omega) G (out++[((r:Int),(p:Int))]) out.length (by omega) (by omega) (by omega) (fun g hg=>by have:=hf g hg; omega) (fun q hq=>by
   have e:(A2 G (out++[((r:Int),(p:Int))]) q).place=(out[q]).2:=by simp[A2,List.getD_eq_getElem?_getD,List.getElem?_append_left hq,bk hq]
   rw[e];exact ho _ (bf hq))
  have qR:=fun n=>hrec ((r:Int),(p:Int)) (by simp only;omega) (by simp only;omega) n;have hcx:HZ c s G rec out r p=(JH c G (out++[((r:Int),(p:Int))]) out.length&&(CR c s (A2 G (out++[((r:Int),(p:Int))]) out.length)).enough&&rec (out++[((r:Int),(p:Int))])):=rfl;have hfl:IU (HZ c s G rec out r) (d+1) p=(HZ c s G rec out r p||IU (HZ c s G rec out r) d (p+1)):=rfl;rw[hfl];have qE:=fun hx n=>AJ9 n c hc s hs (A2 G (out++[((r:Int),(p:Int))]) out.length) hx (by rw[hsa];exact hfk.1) (by rw[hsa];exact⟨Int.le_trans (by decide) hfk.2.1,hfk.2.2⟩);have eg:AW (vN (A2 G (out++[((r:Int),(p:Int))]) out.length))=[i G[out.length].1,i G[out.length].2]:=by rw[hsa];rfl
  have es:AQ (spt (A2 G (out++[((r:Int),(p:Int))]) out.length))=[i r,i p]:=by rw[hsa];rfl
  rw[eg,es]at qE;have hx:JH c G (out++[((r:Int),(p:Int))]) out.length=true->ED c (A2 G (out++[((r:Int),(p:Int))]) out.length)=true:=fun hS=>by simp only[JH,bj]at hS;exact hS.1
  have qE:=fun hS=>qE (hx hS);generalize hS:JH c G (out++[((r:Int),(p:Int))]) out.length=zS at *;generalize hE:(CR c s (A2 G (out++[((r:Int),(p:Int))]) out.length)).enough=zE at *;generalize hR:rec (out++[((r:Int),(p:Int))])=zR at *;cases hz:HZ c s G rec out r p with
  |true=>
   rw[hz]at hcx
   have hcx:=hcx.symm
   simp only[bj]at hcx
   obtain⟨⟨rfl,rfl⟩,rfl⟩:=hcx
   have qE:=qE rfl
   rw[Bool.true_or]
   refine⟨[(1,true,FV s),(2,true,.list false (G.map AW)),(3,true,.list false (out.map AQ)),(4,true,.ptr 0 4 0 0),(9,true,i r)],cc+1+1,by simp,by simp,by simp,by simp,by simp,fun n m hm=>?_⟩
   obtain⟨m,rfl⟩:=qNz m (by omega)
   rw[if_pos rfl,AB]
   simp only[AD]at qS qE qR|-
   simp[AQ]at qS qE qR ha1 ha2
   simp[hp',qS,qE,qR,ha1,ha2,AQ,AW,AU,BC,AS,CD,B6,hoi,hl]
   done
  |false=>
   rw[hz]at hcx
   rw[bp]
   obtain⟨fr,c',g1,g2,g3,g4,g9,ih⟩:=A2G r hr d (p+1) (cc+1+1) (by omega)
   refine⟨fr,c',g1,g2,g3,g4,g9,fun n m hm=>?_⟩
   obtain⟨m,rfl⟩:=qNz m (by omega)
   have ih:=ih n m (by omega)
   clear hrec hz
   generalize IU (HZ c s G rec out r) d (p+1)=F at *
   rw[AB]
   simp only[AD]at qS qE qR ih|-
   simp at ih
   cases zS with
   |false=>
    clear qE
    simp[AQ]at qS qR ha1 ha2
    simp[hp',hw,qS,ha1,ha2,AQ,AW,AU,BC,AS,XU,CD,B6,ih]
    done
   |true=>
    have qE:=qE rfl
    simp[AQ]at qS qE qR ha1 ha2
    cases zE with
    |false=>
     simp[hp',hw,qS,qE,ha1,ha2,AQ,AW,AU,BC,AS,XU,CD,B6,hoi,hl,ih]
     done
    |true=>
     obtain rfl:zR=false:=by simpa using hcx
     simp[hp',hw,qS,qE,qR,ha1,ha2,AQ,AW,AU,BC,AS,CD,B6,hoi,hl,ih]
     done
theorem A2H:∀(d r cc:Nat),r+d=c.beach.rows.toNat->∃fr c',
  ∀n m,d<m->A8 (AE ck ann kn (n+K+1400) 65) S9 (ann 65 (BU S9)) m ⟨cc,[(1,true,FV s),(2,true,.list false (G.map AW)),(3,true,.list false (out.map AQ)),(4,true,.ptr 0 4 0 0),(9,true,i r)],⟨[],[(4,0,.box (AD c))]⟩⟩ =
   if IU (fun r=>IU (HZ c s G rec out r) c.beach.places.toNat 0) d r=true then some (.ret,⟨c',[(8,true,.bool true)],⟨[],[]⟩⟩) else some (.exit 0,⟨c',fr,⟨[],[(4,0,.box (AD c))]⟩⟩)
 |0,r,cc,hd=>by
  have hro:=hc.be.ro;have hr':¬(r:Int)<c.beach.rows:=by omega
  refine⟨?fr,cc,fun n m hm=>?g9⟩;case g9=>
   obtain⟨m,rfl⟩:=qNz m (by omega)
   rw[if_neg (by simp[IU]),AB]
   simp[AD,hr']
   rfl
 |d+1,r,cc,hd=>by
  have hpl:=hc.be.pl;have hro:=hc.be.ro;have hr':(r:Int)<c.beach.rows:=by omega
  have hw:=BM (k:=r) (by omega);obtain⟨f1,c1,h1,h2,h3,h4,h9,q⟩:=A2G c hc s hs G hG hf out hl ho rec K hrec r hr' c.beach.places.toNat 0 cc (by omega);have q:=fun n m=>q (n+94) (m+101) (by omega);simp only[show ∀n,n+94+K+1300=n+K+1394 from fun n=>by omega]at q;have hfl:IU (fun r=>IU (HZ c s G rec out r) c.beach.places.toNat 0) (d+1) r=(IU (HZ c s G rec out r) c.beach.places.toNat 0||IU (fun r=>IU (HZ c s G rec out r) c.beach.places.toNat 0) d (r+1)):=rfl;rw[hfl];cases hz:IU (HZ c s G rec out r) c.beach.places.toNat 0 with
  |true=>
   rw[hz]at q
   refine⟨[],c1,fun n m hm=>?_⟩
   obtain⟨m,rfl⟩:=qNz m (by omega)
   clear hrec
   rw[if_pos (by simp),AB]
   simp only[AD]at q|-
   simp at q
   simp[hr',q]
  |false=>
   rw[hz]at q
   obtain⟨fr,c',ih⟩:=A2H d (r+1) c1 (by omega)
   rw[bp]
   refine⟨fr,c',fun n m hm=>?_⟩
   obtain⟨m,rfl⟩:=qNz m (by omega)
   have ih:=ih n m (by omega)
   clear hrec hz
   generalize IU (fun r=>IU (HZ c s G rec out r) c.beach.places.toNat 0) d (r+1)=F at *
   rw[AB]
   simp only[AD]at q ih|-
   simp at q ih
   simp[hr',hw,q,h1,h2,h3,h4,h9,ih]
end
theorem ADL(c:AP)(hc:B0 c)(s:List (List Int))(hs:I9 c s)(G:List (Nat×Int))(hG:G.length<=10)(hf:∀g∈G,g.1<c.fams.length/\1<=g.2/\g.2<=4):∀(e:Nat) (out:List (Int×Int)),out.length+e=G.length->(∀x∈out,0<=x.2/\x.2<=1000)->∀n,AY ck kn (AE ck ann kn (n+1500*(e+1))) 133 [.agg (AD c),FV s,.list false (G.map AW),.list false (out.map AQ)]=some (.bool (K9 c s G e out))
 |0,out,hl,ho=>fun n=>by
  have hl':(out.length:Int)=(G.length:Int):=by omega
  rw[AN rfl,AM Tryz.func133 A33 rfl (by simp[AD,AU,BC,AS,AW])];simp only[AD];simp[ALL,AF,hl',K9]
 |e+1,out,hl,ho=>by
  have hlt:out.length<G.length:=by omega
  have hl':¬(out.length:Int)=(G.length:Int):=by omega
  have hro:=hc.be.ro;have hrec:∀x:Int×Int,0<=x.2->x.2<=1000->∀j n,AY ck kn (AE ck ann kn (n+1500*(e+1)+j)) 133 [.agg (AD c),FV s,.list false (G.map AW),.list false ((out++[x]).map AQ)]=some (.bool (K9 c s G e (out++[x]))):=fun x h1 h2 j n=>by
   have q:=ADL c hc s hs G hG hf e (out++[x]) (by simp; omega) (fun y hy=>by
    rcases List.mem_append.1 hy with h|h
    ·exact ho y h
    ·rw[bm.1 h]; exact⟨h1,h2⟩)
   rw[show n+1500*(e+1)+j=n+j+1500*(e+1) by omega];exact q (n+j)
  obtain⟨fr,c',q⟩:=A2H c hc s hs G hG hf out hlt ho (K9 c s G e) (1500*(e+1)) hrec c.beach.rows.toNat 0 1 (by omega);have q:=fun n m=>q (n+94) (m+101) (by omega);simp only[show ∀n,n+94+1500*(e+1)+1400=n+1500*(e+1)+1494 from fun n=>by omega]at q;have er:K9 c s G (e+1) out=IU (fun r=>IU (HZ c s G (K9 c s G e) out r) c.beach.places.toNat 0) c.beach.rows.toNat 0:=rfl;rw[er];clear hrec;generalize IU (fun r=>IU (HZ c s G (K9 c s G e) out r) c.beach.places.toNat 0) c.beach.rows.toNat 0=R at *;have eK:∀n,n+1500*(e+1+1)=n+1500*(e+1)+1500:=fun n=>by omega
  simp only[eK];generalize 1500*(e+1)=K at *;intro n;rw[AN rfl,AM Tryz.func133 A33 rfl (by simp[AD,AU,BC,AS,AW])];simp only[AD]at q|-;cases R with
  |true=>
   simp at q
   simp[ALL,AF,hl',q]
  |false=>
   simp at q
   simp[ALL,AF,hl',q]
def eD(c:AP)(s:List (List Int))(G:List (Nat×Int))(ss:List (Int×Int))(k:Nat):Bool:=JH c G ss k&&(CR c s (A2 G ss k)).enough
theorem fO{c:AP}{s:List (List Int)}{G:List (Nat×Int)}{ss:List (Int×Int)}{k j:Nat}(h:k<j):eD c s G (ss.take j) k=eD c s G ss k:=by unfold eD;rw[VH h];congr 1;rw[<-ZF (ss:=ss.take j),List.take_take,show min (k+1) j=k+1 by omega,ZF]
theorem VI{c:AP}(hc:B0 c){s:List (List Int)}{G:List (Nat×Int)}(hz:∀g∈G,1<=g.2):∀{e:Nat} {out:List (Int×Int)},out.length+e=G.length->(K9 c s G e out=true↔∃ss:List (Int×Int),ss.length=G.length/\ss.take out.length=out/\∀k,out.length<=k->k<G.length->eD c s G ss k=true)
 |0,out,hl=>by show true=true↔_;exact⟨fun _=>⟨out,by omega,List.take_of_length_le (bh _),fun k h1 h2=>by omega⟩,fun _=>rfl⟩
 |e+1,out,hl=>by
  have hro:=hc.be.ro;have hpl:=hc.be.pl;show IU _ _ _=true↔_;rw[R5];constructor
  ·rintro ⟨r,_,hr,h⟩;obtain⟨p,_,hp,h⟩:=R5.1 h;unfold HZ at h;rw[bj]at h;obtain⟨hk,h⟩:=h;obtain⟨ss,h1,h2,h3⟩:=(VI hc hz (out:=out++[((r:Int),(p:Int))]) (by simp;omega)).1 h;rw[bn,List.length_singleton]at h2 h3;have ht:ss.take out.length=out:=by have:=congrArg (List.take out.length) h2;rw[List.take_take,show min out.length (out.length+1)=out.length by omega]at this;rw[this];simp
   refine⟨ss,h1,ht,fun k hk1 hk2=>?_⟩;by_cases e1:k=out.length
   ·subst e1;rw[<-fO (j:=out.length+1) (by omega),h2];exact hk
   ·exact h3 k (by omega) hk2
  ·rintro ⟨ss,h1,h2,h3⟩;have hlt:out.length<G.length:=by omega
   have hls:out.length<ss.length:=by omega
   have hk:=h3 out.length (bh _) hlt;have hfit:ED c (A2 G ss out.length)=true:=by simp only[eD,JH,bj]at hk;exact hk.1.1
   have hsp:=YL hlt hls;obtain⟨r,p,e1,e2,g1,g2⟩:=ADJ hfit;rw[hsp]at e1 e2 g2;simp only at e1 e2 g2;have hg:=hz _ (bf hlt);have hx:out++[((r:Int),(p:Int))]=ss.take (out.length+1):=by rw[List.take_succ_eq_append_getElem hls,h2];congr 1;rw[<-e1,<-e2]
   refine⟨r,by omega,by omega,R5.2 ⟨p,by omega,by omega,?_⟩⟩;unfold HZ A2F;rw[hx];have hk':eD c s G (ss.take (out.length+1)) out.length=true:=by rw[fO (by omega)];exact hk
   unfold eD at hk';rw[bj];refine⟨hk',(VI hc hz (by rw[bg];omega)).2 ⟨ss,h1,?_,fun k hk1 hk2=>?_⟩⟩
   ·rw[bg,show min (out.length+1) ss.length=out.length+1 by omega]
   ·rw[bg]at hk1;exact h3 k (by omega) hk2
def AR5(c:AP)(s:List (List Int))(G:List (Nat×Int)):Bool:=decide (DH G<=(DZ c:Int))&&K9 c s G G.length []
theorem AKA{c:AP}(hc:B0 c){s:List (List Int)}{G:List (Nat×Int)}(hz:∀g∈G,1<=g.2/\g.2<=4):AR5 c s G=EZ c s G:=by
 rw[Bool.eq_iff_iff,YH];unfold AR5;rw[bj,decide_eq_true_eq,VI hc (fun g hg=>(hz g hg).1) (by simp)];constructor
 ·rintro ⟨hp,ss,h1,_,h3⟩;have h3:=fun k hk=>h3 k (Nat.zero_le _) hk;have hs:LJ c G ss=true:=by unfold LJ;simp only[bj,decide_eq_true_eq,bz,bq];refine⟨h1,hp,fun k hk=>?_⟩;have:=h3 k (by omega);simp only[eD,bj]at this;exact this.1
  rw[W3 hz]at hs;simp only[bj,decide_eq_true_eq]at hs;have hgr:((cj ss.length).map (A2 G ss)).map vN=G:=by apply List.ext_getElem (by simp[h1]);intro j g1 g2;simp only[List.getElem_map,List.getElem_range];rw[YL g2 (by omega)];rfl
  refine⟨_,hgr,hs.2.2,?_,fun x hx=>?_⟩
  ·rw[MJ,hgr];exact hp
  ·obtain⟨k,hk,rfl⟩:=bt.1 hx;have:=h3 k (by have:=bq.1 hk;omega);simp only[eD,bj]at this;exact this.2
 ·rintro ⟨l,hl⟩;have hlen:l.length=G.length:=by rw[<-hl.gr,bw]
  have hsp:l=(cj (l.map spt).length).map (A2 G (l.map spt)):=by
   refine sA (by rw[bw];omega) (by rw[bw]) fun j h1=>?_;have hG:G[j]'(by omega)=vN (l[j]):=by
    have:G[j]? = (l.map vN)[j]?:=by rw[hl.gr]
    rw[bk (by omega),bk (by simpa using h1)]at this;simpa using this
   rw[YL (by omega) (by simpa using h1),hG];simp[vN,spt]
  have hp:DH G<=(DZ c:Int):=by have:=hl.pe;rw[MJ,hl.gr]at this;exact this
  have hs:LJ c G (l.map spt)=true:=by rw[W3 hz,<-hsp];simp only[bj,decide_eq_true_eq];exact⟨by simpa using hlen,hp,hl.go⟩
  unfold LJ at hs;simp only[bj,decide_eq_true_eq,bz,bq]at hs;refine⟨hp,l.map spt,by simpa using hlen,rfl,fun k _ hk=>?_⟩;unfold eD;rw[bj];have hk2:k<l.length:=by omega
  refine⟨hs.2.2 k (by simpa using hk2),hl.en _ ?_⟩;have hm:A2 G (l.map spt) k∈(cj (l.map spt).length).map (A2 G (l.map spt)):=bt.2 ⟨k,bq.2 (by simpa using hk2),rfl⟩;rwa [<-hsp]at hm
theorem AOU(n:Nat)(c:AP)(hc:B0 c)(s:List (List Int))(hs:I9 c s)(G:List (Nat×Int))(hG:G.length<=5)(hf:∀g∈G,g.1<c.fams.length/\1<=g.2/\g.2<=4):AY ck kn (AE ck ann kn (n+9200)) 95 [.agg (AD c),FV s,.list false (G.map AW)]=some (.bool (EZ c s G)):=by
 rw[AN rfl,AM Tryz.func95 b95 rfl (by simp[AD,AU,BC,AS,AW])];have hro:=hc.be.ro;have hpl:=hc.be.pl;have hch:=hc.ch;have qP:=fun n=>AJ1 n G (by omega) (fun g hg=>by have:=hf g hg;omega);have qC:=fun n=>ADF n c (by omega) (fun l hl=>by have:=hc.cr l hl;omega);have qR:=fun n=>ADL c hc s hs G (by omega) hf G.length [] (by simp) (by simp) (n+(9100-1500*(G.length+1)));simp only[show ∀n,n+(9100-1500*(G.length+1))+1500*(G.length+1)=n+9100 from fun n=>by omega]at qR;have hcr:=AKA hc (s:=s) (fun g hg=>(hf g hg).2);rw[<-hcr];unfold AR5;by_cases h:DH G<=(DZ c:Int)
 ·rw[decide_eq_true h,Bool.true_and];simp only[AD]at qC qR|-;simp at qR;simp[c95,AF,qP,qC,qR,h,AU,BC,AS,AW]
 ·rw[decide_eq_false h,Bool.false_and];simp only[AD]at qC qR|-;simp[c95,AF,qP,qC,h,AU,BC,AS,XU]
theorem A2I{a j:Nat}(ha:a<=16)(hj:j<=30):TR .shl .i64 (a:Int) (j:Int)=some (.int .i64 ((a*2 ^ j:Nat):Int)):=by
 rw[U0,if_neg (by omega)];have e:min (j:Int).toNat IntKind.i64.bits=j:=by simp only[Int.toNat_natCast,IntKind.bits];omega
 rw[e];have h1:2 ^ j<=2 ^ 30:=bx (by decide) hj;have h2:a*2 ^ j<=16*2 ^ 30:=Nat.mul_le_mul ha h1;have e2:(a:Int)*2 ^ j=((a*2 ^ j:Nat):Int):=by simp
 rw[e2,AO (by omega) (by omega)]
theorem zX{P:List Int->Bool}{N x:Nat}{y:List Int}(hN:N<=30)(h:y.length<=30):(E0 P N x y).length<=30:=by have hbl:=PL x N;unfold E0;split<;>omega
theorem ZG(c:AP)(out:List Int):(AZ c out).length<=c.fams.length:=by rw[FW,bw];exact AC5 _ _
def X3(c:AP)(s:List (List Int))(out:List Int):Bool:=EZ c s (AZ c out)
theorem LK{G:List (Nat×Int)}(f:Nat):∀e∈G.map AW,∀v∈e,AG (f+1) v=true:=fun e he v hv=>by obtain⟨l,_,rfl⟩:=bt.1 he;simp only[AW,List.mem_cons,List.not_mem_nil,or_false]at hv;rcases hv with rfl|rfl<;>rfl
theorem A2J(c:AP)(hc:B0 c)(s:List (List Int))(hs:I9 c s)(cc:Nat):∀(d x:Nat) (y:List Int),x+d=2 ^ c.fams.length->y.length<=30->∃fr,BG fr 6=some (true,sl ((goG (X3 c s) c.fams.length d x y).map AJ))/\∀n m,d<m ->
  A8 (AE ck ann kn (n+9300) 37) ZV (ann 37 (BU ZV)) m ⟨cc,[(1,true,FV s),(2,true,.ptr 0 2 0 0),(5,true,i (2 ^ c.fams.length-1:Nat)),(6,true,sl (y.map AJ)),(7,true,i x)],⟨[],[(2,0,.box (AD c))]⟩⟩ =
   some (.exit 0,⟨cc,fr,⟨[],[(2,0,.box (AD c))]⟩⟩)
 |0,x,y,hd,ho=>by
  have hx:x=2 ^ c.fams.length:=by omega
  have hpos:=Nat.two_pow_pos c.fams.length;unfold goG;generalize 2 ^ c.fams.length=A at *;subst hx;have hnot:¬x<=x-1:=by omega
  refine⟨?fr,?g1,fun n m hm=>?g2⟩;case g2=>
   obtain⟨m,rfl⟩:=qNz m (by omega)
   simp[AB,hnot]
   rfl
  case g1=>simp
 |d+1,x,y,hd,hy=>by
  have hfl:=hc.fl;have hx:x<2 ^ c.fams.length:=by omega
  have hp30:2 ^ c.fams.length<=2 ^ 3:=bx (by decide) (by omega);have q50:=fun n=>AQJ n x c.fams.length (by omega) hx;have qG:∀n,AY ck kn (AE ck ann kn (n+200)) 26 [.agg (AD c),i x]=some (sl ((AZ c (BR x c.fams.length)).map AW)):=fun n=>ADH n c (by omega) x;have hgl:=ZG c (BR x c.fams.length);have qC:=fun n=>AOU n c hc s hs (AZ c (BR x c.fams.length)) (by omega) (fun g hg=>H6 hc _ _ (bh _) g hg);have hw:IntKind.i64.wrap ((x:Int)+1)=(x:Int)+1:=AO (by omega) (by omega);have hbl:=PL x c.fams.length;have hle:x<=2 ^ c.fams.length-1:=by omega
  have hgo:goG (X3 c s) c.fams.length (d+1) x y=goG (X3 c s) c.fams.length d (x+1) (E0 (X3 c s) c.fams.length x y):=rfl;rw[hgo];obtain⟨fr,g1,ih⟩:=A2J c hc s hs cc d (x+1) (E0 (X3 c s) c.fams.length x y) (by omega) (zX (by omega) hy);refine⟨fr,g1,fun n m hm=>?_⟩;obtain⟨m,rfl⟩:=qNz m (by omega);have ih:=ih n m (by omega);clear g1 hgo;unfold E0 X3 at ih;have q49:=fun n=>AHP n (BR x c.fams.length) y (by omega) (by omega);have g7:=eq_true (LK (G:=AZ c (BR x c.fams.length)) 6);have g8:=eq_true (LK (G:=AZ c (BR x c.fams.length)) 7);generalize (AZ c (BR x c.fams.length)).map AW=GG at *;generalize EZ c s (AZ c (BR x c.fams.length))=z at qC ih;generalize hB:BR x c.fams.length=B at *;have hclB:(B.map AJ).all (fun e=>e.all (AG 8))=true:=by simp
  generalize 2 ^ c.fams.length=A at *;rw[AB];simp only[AD]at qG qC ih|-;cases hsh:E8 B y with
  |false=>
   rw[hsh]at q49
   simp only[hsh,Bool.false_and]at ih
   rw[if_neg (by decide)]at ih
   simp at ih
   simp[q50,q49,hw,hle,XU,ih]
   done
  |true=>
   rw[hsh]at q49
   simp only[hsh,Bool.true_and]at ih
   cases z with
   |true=>
    rw[if_pos rfl]at ih
    simp at ih
    simp[q50,q49,qG,qC,g8,hw,hle,AU,BC,AS,ih]
    done
   |false=>
    rw[if_neg (by decide)]at ih
    simp at ih
    simp[q50,q49,qG,qC,g8,hw,hle,AU,BC,AS,ih]
    done
theorem ADM(n:Nat)(c:AP)(hc:B0 c)(s:List (List Int))(hs:I9 c s):AY ck kn (AE ck ann kn (n+9500)) 43 [.agg (AD c),FV s]=some (sl ((PF (X3 c s) c.fams.length).map AJ)):=by
 rw[AN rfl,AM Tryz.func43 b43 rfl (by simp[AD,AU,BC,AS])];have hfl:=hc.fl;have hbl:=PL (2 ^ c.fams.length-1) c.fams.length;have hpos:=Nat.two_pow_pos c.fams.length;have hp30:2 ^ c.fams.length<=2 ^ 3:=bx (by decide) (by omega);have q50:=fun n=>AQJ n (2 ^ c.fams.length-1) c.fams.length (by omega) (by omega);obtain⟨fr,g6,q0⟩:=A2J c hc s hs 1 (2 ^ c.fams.length) 0 (BR (2 ^ c.fams.length-1) c.fams.length) (by omega) (by omega);have q:=q0 (n+193) (n+9493) (by omega);rw[show n+193+9300=n+9493 by omega]at q;clear q0;have wl:=MG (p:=c.fams.length) (by omega);have e0:=A2I (a:=1) (j:=c.fams.length) (by omega) (by omega);rw[Nat.one_mul]at e0;have e0:TR .shl .i64 1 (c.fams.length:Int)=some (.int .i64 ((2 ^ c.fams.length:Nat):Int)):=e0;have wm:IntKind.i64.wrap (((2 ^ c.fams.length:Nat):Int)-1)=((2 ^ c.fams.length-1:Nat):Int):=by rw[AO (by omega) (by omega)];omega
 have eG:goG (X3 c s) c.fams.length (2 ^ c.fams.length) 0 (BR (2 ^ c.fams.length-1) c.fams.length)=PF (X3 c s) c.fams.length:=rfl;rw[eG]at g6;generalize PF (X3 c s) c.fams.length=R at *;generalize BR (2 ^ c.fams.length-1) c.fams.length=B at *;generalize 2 ^ c.fams.length-1=F at *;generalize 2 ^ c.fams.length=A at *;simp only[AD]at q|-;simp at q;simp[c43,AF,q50,q,g6,wl,wm,e0,NG,-U0]
@[simp] theorem AR6:IF ck 26=true:=by kernel_rfl
theorem ADN(n:Nat)(c:AP)(hl:c.fams.length<=30)(x:Nat):HQ ck (AE ck ann kn (n+200)) 26 [.agg (AD c),i x]=some ⟨.vec 135 ((D0 c x).map AW),none⟩:=by
 rw[WL Tryz.func26 b26 rfl (by simp[AD,AU,BC,AS])];obtain⟨g',γ',fr,e1,q⟩:=AJ5 c hl x c.fams.length 0 1 0 (by omega) (by omega);have q:=fun n m=>q n (m+100) (by omega);have e0:B5 c.fams (BR x c.fams.length) 0=[]:=rfl;rw[e0]at q;have hcl:((D0 c x).map AW).all (fun e=>e.all (AG 9))=true:=by simp[AW]
 generalize (D0 c x).map AW=R at *;simp only[AD]at q|-;simp at q e1;simp[c26,AF,q,e1,YZ];cases R with
 |nil=>exact iJ (R:=49) (T:=135) (by kernel_rfl) (by simp) _ _ _ 30 γ' [] rfl rfl
 |cons x xs=>exact iJ (P:=ck) (R:=49) (T:=135) (by kernel_rfl) (by simp) _ _ _ 30 γ' (x::xs) (by simp) hcl
def JW(c:AP)(k n:Nat):List (Nat×Int):=D0 c (2 ^ k)++[(k,(n:Int)+1),(k,(BO c k).size-((n:Int)+1))]
def eE(p:Nat->Bool):Nat->Nat->Bool
 |0,_=>false
 |e+1,j=>p j||eE p e (j+1)
theorem A2K(c:AP)(hc:B0 c)(s:List (List Int))(hs:I9 c s)(k:Nat)(hk:k<c.fams.length):∀(d j cc:Nat),j+d=((BO c k).size-1).toNat->∃fr c',∀n m,d<m ->
  A8 (AE ck ann kn (n+9300) 43) ZW (ann 43 (BU ZW)) m ⟨cc,[(1,true,FV s),(2,true,i k),(3,true,.ptr 0 3 0 0),(7,true,i ((j:Int)+1))],⟨[],[(3,0,.box (AD c))]⟩⟩ =
   if eE (fun n=>EZ c s (JW c k n)) d j=true then some (.ret,⟨c',[(6,true,.bool true)],⟨[],[]⟩⟩) else some (.exit 0,⟨c',fr,⟨[],[(3,0,.box (AD c))]⟩⟩)
 |0,j,cc,hd=>by
  have hfs:=(hc.fo _ (RV hk)).1;have hfk:(c.fams[k]'hk).size=(BO c k).size:=by simp[BO,bk hk]
  generalize (BO c k).size=z at *;have hnot:¬((j:Int)+1<z):=by omega
  refine⟨?fr,cc,fun n m hm=>?g⟩;case g=>
   obtain⟨m,rfl⟩:=qNz m (by omega)
   rw[if_neg (by simp[eE]),AB]
   simp[AD,hk,AS,hfk,hnot]
   rfl
 |d+1,j,cc,hd=>by
  have hfs:=(hc.fo _ (RV hk)).1;have hfl:=hc.fl;have hfk:(c.fams[k]'hk).size=(BO c k).size:=by simp[BO,bk hk]
  have hlt:(j:Int)+1<(BO c k).size:=by omega
  have hgs:∀x∈JW c k j,x.1<c.fams.length/\1<=x.2/\x.2<=4:=fun x hx=>by
   rcases List.mem_append.1 hx with h|h
   ·exact H6 hc _ _ (bh _) x h
   ·simp only[List.mem_cons,List.not_mem_nil,or_false]at h;rcases h with rfl|rfl<;>(refine⟨hk,?_,?_⟩<;>show _<=_<;>simp only<;>omega)
  have hl0:(D0 c (2 ^ k)).length<=c.fams.length:=ZG c _;have hgl:(JW c k j).length<=5:=by simp only[JW,bn,List.length_cons,List.length_nil];omega
  have hga:(D0 c (2 ^ k)).map AW++[[V.int .i64 (k:Int),V.int .i64 ((j:Int)+1)],[V.int .i64 (k:Int),V.int .i64 ((BO c k).size-((j:Int)+1))]]=(JW c k j).map AW:=by simp[JW,AW]
  have hlen:(JW c k j).length=(D0 c (2 ^ k)).length+2:=by simp[JW]
  have happ:BW ck 135 (D0 c (2 ^ k)).length [[V.int .i64 (k:Int),V.int .i64 ((j:Int)+1)],[V.int .i64 (k:Int),V.int .i64 ((BO c k).size-((j:Int)+1))]]=true:=by rw[BQ (by simp) (by simp)];simp[maxLen];omega
  have hal:(((D0 c (2 ^ k)).map AW).all fun y=>y.length==ck.cellsOf 135)=true:=by
   have e:ck.cellsOf 135=2:=by kernel_rfl
   simp[e,AW]
  have qG:=fun n=>ADN n c (by omega) (2 ^ k);have qC:=fun n=>AOU n c hc s hs (JW c k j) hgl hgs;have e1:=A2I (a:=1) (j:=k) (by omega) (by omega);rw[Nat.one_mul]at e1;have e1:TR .shl .i64 1 (k:Int)=some (.int .i64 ((2 ^ k:Nat):Int)):=e1;have e2:=MG (p:=k) (by omega);have w1:IntKind.i64.wrap ((BO c k).size-((j:Int)+1))=(BO c k).size-((j:Int)+1):=AO (by omega) (by omega);have w2:IntKind.i64.wrap ((j:Int)+1+1)=(j:Int)+1+1:=AO (by omega) (by omega);have hc8:∀k r,HT ck (IK.oth (Op.convert 3 115 (tq k))) r=[]:=fun k r=>rfl;have hlG:(D0 c (2 ^ k)).length+2=((JW c k j).map AW).length:=by rw[bw,hlen]
  have g7:=eq_true (LK (G:=JW c k j) 6);have g8:=eq_true (LK (G:=JW c k j) 7);have g8b:((JW c k j).map AW).all (fun e=>e.all (AG 8))=true:=bz.2 fun e he=>bz.2 fun v hv=>LK 7 e he v hv;have hfl2:eE (fun n=>EZ c s (JW c k n)) (d+1) j=(EZ c s (JW c k j)||eE (fun n=>EZ c s (JW c k n)) d (j+1)):=rfl;rw[hfl2];cases hz:EZ c s (JW c k j)with
  |true=>
   rw[hz]at qC
   refine⟨[],cc+1+1,fun n m hm=>?_⟩
   obtain⟨m,rfl⟩:=qNz m (by omega)
   rw[if_pos (by simp),AB]
   generalize (JW c k j).map AW=GG at *
   generalize (BO c k).size=z at *
   generalize 2 ^ k=A at *
   simp only[AD]at qG qC|-
   simp[hk,AU,BC,AS,AW,hfk,hlt,w1,e1,e2,NG,-U0,qG,qC,happ,hga,g8b,J4,KK,ID,hc8,hlG,CD,B6]
   done
  |false=>
   rw[hz]at qC
   obtain⟨fr,c',ih⟩:=A2K c hc s hs k hk d (j+1) (cc+1+1) (by omega)
   refine⟨fr,c',fun n m hm=>?_⟩
   obtain⟨m,rfl⟩:=qNz m (by omega)
   have ih:=ih n m (by omega)
   rw[bp]
   clear hz
   generalize eE (fun n=>EZ c s (JW c k n)) d (j+1)=F at *
   rw[AB]
   generalize (JW c k j).map AW=GG at *
   generalize (BO c k).size=z at *
   generalize 2 ^ k=A at *
   simp only[AD]at qG qC ih|-
   simp at ih
   simp[hk,AU,BC,AS,AW,hfk,hlt,w1,w2,e1,e2,NG,-U0,qG,qC,happ,hga,g8b,J4,KK,ID,hc8,hlG,CD,B6,ih]
   done
def N4(c:AP)(s:List (List Int))(k:Nat):Bool:=eE (fun n=>EZ c s (JW c k n)) ((BO c k).size-1).toNat 0
theorem sC(n:Nat)(c:AP)(hc:B0 c)(s:List (List Int))(hs:I9 c s)(k:Nat)(hk:k<c.fams.length):AY ck kn (AE ck ann kn (n+9500)) 45 [.agg (AD c),FV s,i k]=some (.bool (N4 c s k)):=by
 rw[AN rfl,AM Tryz.func45 b45 rfl (by simp[AD,AU,BC,AS])];have hfs:=(hc.fo _ (RV hk)).1;obtain⟨fr,c',q0⟩:=A2K c hc s hs k hk ((BO c k).size-1).toNat 0 1 (by omega);have q:=q0 (n+195) (n+9495) (by omega);rw[show n+195+9300=n+9495 by omega]at q;clear q0;have e:eE (fun n=>EZ c s (JW c k n)) ((BO c k).size-1).toNat 0=N4 c s k:=rfl;rw[e]at q;generalize N4 c s k=R at *;simp only[AD]at q|-;cases R with
 |true=>
  simp at q
  simp[c45,AF,q]
 |false=>
  simp at q
  simp[c45,AF,q]
theorem mD{p:Nat->Bool}:∀{e j:Nat},eE p e j=true↔∃q,j<=q/\q<j+e/\p q=true
 |0,j=>by
  constructor
  ·intro h;cases h
  ·rintro ⟨q,h1,h2,_⟩;omega
 |e+1,j=>by
  show(p j||eE p e (j+1))=true↔_;rw[Bool.or_eq_true,mD];constructor
  ·rintro (h|⟨q,h1,h2,h3⟩)
   ·exact⟨j,by omega,by omega,h⟩
   ·exact⟨q,by omega,by omega,h3⟩
  ·rintro ⟨q,h1,h2,h3⟩;by_cases e':q=j
   ·exact .inl (e'▸h3)
   ·exact .inr ⟨q,by omega,by omega,h3⟩
theorem zY{c:AP}(hc:B0 c){k:Nat}(hk:k<c.fams.length):N4 c (G7 c) k=EP c k:=by
 have hfs:=(hc.fo _ (RV hk)).1;have hg:D0 c (2 ^ k)=AZ c [(k:Int)]:=by
  unfold D0;rw[FW,FW,rY (a:=BR (2 ^ k) c.fams.length) (b:=[(k:Int)]) fun j hj=>by
   rw[RU,Nat.testBit_two_pow];simp only[decide_eq_true_eq,bm];omega]
 have hs:∀gs,EZ c (G7 c) gs=EZ c (A7 c) gs:=fun gs=>(Y7 (VE hc) gs).symm;rw[Bool.eq_iff_iff];unfold N4 EP;rw[mD,List.any_eq_true];unfold JW;rw[hg];constructor
 ·rintro ⟨q,_,h2,h3⟩;simp only[hs]at h3;by_cases hq:((q:Int)+1)<=(BO c k).size / 2
  ·exact⟨q,bq.2 (by omega),h3⟩
  ·have h4:=ACZ _ _ _ h3;refine⟨((BO c k).size-((q:Int)+1)-1).toNat,bq.2 (by omega),?_⟩;have e1:((((BO c k).size-((q:Int)+1)-1).toNat:Nat):Int)+1=(BO c k).size-((q:Int)+1):=by omega
   rw[e1,show(BO c k).size-((BO c k).size-((q:Int)+1))=(q:Int)+1 by omega];exact h4
 ·rintro ⟨q,h1,h2⟩;have h1:=bq.1 h1;refine⟨q,Nat.zero_le _,by omega,?_⟩;simp only[hs];exact h2
theorem zZ{c:AP}(hc:B0 c):NY (FI c) c.fams.length=some (PF (X3 c (G7 c)) c.fams.length):=by
 have e:X3 c (G7 c)=FI c:=by funext out;exact(Y7 (VE hc) _).symm
 rw[e];exact lR (lV c)
theorem AOV(A B:List Int)(hl:A.length=B.length)(hb:A.length<=100)(cc:Nat):∀(d k:Nat),k+d=A.length->∃fr,∀n m,d<m ->
  A8 (AE ck ann kn (n+100) 26) ZX (ann 26 (BU ZX)) m ⟨cc,[(0,true,li A),(1,true,li B),(5,true,i k)],⟨[],[]⟩⟩ =
   if A.drop k=B.drop k then some (.exit 0,⟨cc,fr,⟨[],[]⟩⟩) else some (.ret,⟨cc,[(4,true,.bool false)],⟨[],[]⟩⟩)
 |0,k,hd=>by
  have hk:k=A.length:=by omega
  have hnot:¬k<A.length:=by omega
  refine⟨?fr,fun n m hm=>?g⟩;case g=>
   obtain⟨m,rfl⟩:=qNz m (by omega)
   rw[if_pos (by rw[bc (by omega),bc (by omega)])]
   simp[AB,hnot]
   rfl
 |d+1,k,hd=>by
  have hk:k<A.length:=by omega
  have hk2:k<B.length:=by omega
  have hw:=BM (k:=k) (by omega);obtain⟨fr,ih⟩:=AOV A B hl hb cc d (k+1) (by omega);refine⟨fr,fun n m hm=>?_⟩;obtain⟨m,rfl⟩:=qNz m (by omega);have ih:=ih n m (by omega);rw[bb hk,bb hk2,AB];by_cases e:A[k]=B[k]
  ·have he:(A[k]::A.drop (k+1)=B[k]::B.drop (k+1))↔A.drop (k+1)=B.drop (k+1):=by rw[e];exact⟨fun h=>(List.cons.inj h).2,fun h=>by rw[h]⟩
   simp only[he];simp at ih;simp[hk,hk2,hw,AJ,e,ih]
  ·rw[if_neg fun hh=>e (List.cons.inj hh).1];simp[hk,hk2,AJ,e]
theorem AOW(n:Nat)(A B:List Int)(hb:A.length<=100):AY ck kn (AE ck ann kn (n+300)) 44 [li A,li B]=some (.bool (decide (A=B))):=by
 rw[AN rfl,AM Tryz.func44 b44 rfl (by simp)];by_cases hl:A.length=B.length
 ·obtain⟨fr,q⟩:=AOV A B hl hb 0 A.length 0 (by omega);have q:=fun n m=>q n (m+150) (by omega);rw[List.drop_zero,List.drop_zero]at q;have hlI:(A.length:Int)=(B.length:Int):=by omega
  by_cases h:A=B
  ·rw[if_pos h]at q;rw[decide_eq_true h];simp at q;simp[c44,AF,hl,q]
  ·rw[if_neg h]at q;rw[decide_eq_false h];simp at q;simp[c44,AF,hl,q]
 ·have hlI:¬(A.length:Int)=(B.length:Int):=by omega
  rw[decide_eq_false fun h=>hl (by rw[h])];simp[c44,AF,hlI]
end Go.Proofs.Tryz.Op
