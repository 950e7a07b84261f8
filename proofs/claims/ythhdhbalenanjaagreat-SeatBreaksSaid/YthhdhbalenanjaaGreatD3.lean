/- Contract of the reference: Allowed. No condition but a valid case, sure hours for each place. -/
import Derived.Test.YthhdhbalenanjaaGreatD2
import Derived.Test.YthhdhbalenanjaaGreatA3
open Go.Proofs.Tryz renaming prog->cn,func89->cp
open Nat renaming le_refl->bj,mul_le_mul->bb,le_trans->cj,pow_le_pow_right->ck,succ_mul->cz,zero_le->cg
open List renaming all_eq_true->bk,take_succ_eq_append_getElem->bw,length_append->bx,take_of_length_le->bz,getElem_mem->bc,not_mem_nil->bf,length_take->bg,mem_map->bh,length_nil->bm,mem_cons->bn,getElem?_eq_getElem->bp,nil_append->cq,mem_singleton->cx,append_assoc->cd,map->cm
open Bool renaming and_eq_true->bq,false_eq_true->cw
set_option maxRecDepth 100000
set_option linter.unusedSimpArgs false
open Go Go.Pg Go.Proofs Go.Wind
namespace Go.Proofs.Tryz.Op
def L8(ss:List (Int×Int)):List V:=[.list false (ss.map AH)]
def N6{α:Type}(f:Nat->List α):Nat->Nat->List α
 |0,_=>[]
 |d+1,p=>f p++N6 f d (p+1)
theorem Y5{α:Type}{f:Nat->List α}{M:Nat}(h:∀p,(f p).length<=M):∀d p,(N6 f d p).length<=d*M
 |0,p=>by simp[N6]
 |d+1,p=>by have h1:=h p;have h2:=Y5 h d (p+1);simp only[N6,bx,cz];omega
def EQ(c:AM)(s:List (List Int))(G:List (Nat×Int))(rec:List (Int×Int)->List (List (Int×Int)))(out:List (Int×Int))(r p:Nat):List (List (Int×Int)) :=
 if (JU c G (out++[((r:Int),(p:Int))]) out.length&&(BF c s (AQ G (out++[((r:Int),(p:Int))]) out.length)).enough)=true then rec (out++[((r:Int),(p:Int))]) else[]
def HI(c:AM)(s:List (List Int))(G:List (Nat×Int)):Nat->List (Int×Int)->List (List (Int×Int))
 |0,out=>[out]
 |e+1,out=>N6 (fun r=>N6 (EQ c s G (HI c s G e) out r) c.beach.places.toNat 0) c.beach.rows.toNat 0
theorem gL{c:AM}{s:List (List Int)}{G:List (Nat×Int)}{rec:List (Int×Int)->List (List (Int×Int))}{out:List (Int×Int)}{M:Nat}(h:∀o,(rec o).length<=M)(r p:Nat):(EQ c s G rec out r p).length<=M:=by
 unfold EQ;split
 ·exact h _
 ·exact cg _
theorem RU{c:AM}(hc:BQ c)(s:List (List Int))(G:List (Nat×Int)):∀e out,(HI c s G e out).length<=25 ^ e
 |0,out=>by simp[HI]
 |e+1,out=>by have hro:=hc.be.ro;have hpl:=hc.be.pl;have h1:=Y5 (f:=fun r=>N6 (EQ c s G (HI c s G e) out r) c.beach.places.toNat 0) (M:=5*25 ^ e) (fun r=>cj (Y5 (fun p=>gL (RU hc s G e) r p) c.beach.places.toNat 0) (bb (by omega) (bj _))) c.beach.rows.toNat 0;refine cj h1 (cj (bb (show c.beach.rows.toNat<=5 by omega) (bj _)) ?_);rw[Nat.pow_succ];omega
def Lis(v:V)(es:List (List (Int×Int))):Prop:=v=.list false (es.map L8)\/v=.list true (es.map L8)\/(es=[]/\v=.nil)
def YQ:Option Nat->List (List (Int×Int))->V
 |none,_=>.nil
 |some γ,es=>.vec 0 67 γ es.length
def eY:Option Nat->List (List (Int×Int))->AA
 |none,_=>[]
 |some γ,es=>[(67,γ,.vec 24 (es.map L8))]
theorem AEJ(x:List (Int×Int)):(L8 x).length=1:=rfl
theorem WE(l k:Nat)(o:Option (Nat×A0))(f:Nat):(cm (BN l k o f))∘L8=L8:=by funext ss;show[BN l k o f (.list false (ss.map AH))]=_;rw[PY f 9 _ (by simp)];rfl
theorem BER{k:Nat}{l:List (List (Int×Int))}(h:k+l.length<=100000):BZ cn 24 k (l.map L8)=true:=by rw[BT (by simp) (by simp)];simp[maxLen,L8];omega
theorem ATH{k:Nat}{x:Int×Int}(h:k<=10000):BZ cn 59 k [[i x.1,i x.2]]=true:=by rw[BT (by simp) (by simp)];simp[maxLen];omega
theorem AEK{ss:List (Int×Int)}(h:ss.length<=10000):BZ cn 59 0 (ss.map AH)=true:=by
 cases ss with
 |nil=>rfl
 |cons x l=>
  rw[BT (by simp) (by simp)]
  simp[maxLen,AH]at h|-;omega
section
variable (c:AM)(hc:BQ c)(s:List (List Int))(hs:LM c s)(G:List (Nat×Int))(hG:G.length<=10)(hf:∀g∈G,g.1<c.fams.length/\1<=g.2/\g.2<=4)(out:List (Int×Int))(hl:out.length<G.length)(ho:∀x∈out,0<=x.2/\x.2<=1000)(rec:List (Int×Int)->List (List (Int×Int)))(M K:Nat)(hM:∀o,(rec o).length<=M)
 (hrec:∀x:Int×Int,0<=x.2->x.2<=1000->∃v,Lis v (rec (out++[x]))/\∀j n,AZ cn kn (AE cn ann kn (n+K+j)) 89 [.agg (AD c),FI s,.list false (G.map A4),.list false ((out++[x]).map AH)]=some v)
include hc hs hG hf hl ho hM hrec
theorem ALE(r:Nat)(hr:(r:Int)<c.beach.rows):∀(d p cc:Nat) (o:Option Nat) (A:List (List (Int×Int))),p+d=c.beach.places.toNat->(o=none->A=[])->A.length+d*M<=100000->∃fr c' o',(o'=none->A++N6 (EQ c s G rec out r) d p=[])/\A3 fr 1=some (true,FI s)/\A3 fr 2=some (true,.list false (G.map A4))/\A3 fr 3=some (true,.list false (out.map AH))/\A3 fr 4=some (true,.ptr 0 4 0 0)/\A3 fr 9=some (true,YQ o' (A++N6 (EQ c s G rec out r) d p))/\A3 fr 10=some (true,i r) /\
  ∀n m,d<m->A9 (AE cn ann kn (n+K+1300) 69) aK (ann 69 (BV aK)) m ⟨cc,[(1,true,FI s),(2,true,.list false (G.map A4)),(3,true,.list false (out.map AH)),(4,true,.ptr 0 4 0 0),(9,true,YQ o A),(10,true,i r),(11,true,i p)],⟨[],(4,0,.box (AD c))::eY o A⟩⟩ =
   some (.exit 2,⟨c',fr,⟨[],(4,0,.box (AD c))::eY o' (A++N6 (EQ c s G rec out r) d p)⟩⟩)
 |0,p,cc,o,A,hd,hoA,hAM=>by
  have hpl:=hc.be.pl;have hp':¬(p:Int)<c.beach.places:=by omega
  rw[show N6 (EQ c s G rec out r) 0 p=[] from rfl,List.append_nil];cases o with
  |none=>
   refine⟨?fr,cc,none,hoA,?g1,?g2,?g3,?g4,?g5,?g6,fun n m hm=>?g9⟩
   case g9=>
    obtain⟨m,rfl⟩:=qNz m (by omega)
    rw[AB]
    simp[AD,hp',YQ,eY]
    rfl
   all_goals simp[YQ]
  |some γ=>
   refine⟨?fr2,cc,some γ,(fun h=>by cases h),?g12,?g22,?g32,?g42,?g52,?g62,fun n m hm=>?gP⟩
   case gP=>
    obtain⟨m,rfl⟩:=qNz m (by omega)
    rw[AB]
    simp[AD,hp',YQ,eY]
    rfl
   all_goals simp[YQ]
 |d+1,p,cc,o,A,hd,hoA,hAM=>by
  have hpl:=hc.be.pl;have hro:=hc.be.ro;have hp':(p:Int)<c.beach.places:=by omega
  have hw:=BH (k:=p) (by omega);have ha0:BZ cn 59 0 []=true:=AEK (ss:=[]) (by simp);have ha1:=AEK (ss:=out) (by omega);have ha2:=ATH (k:=out.length) (x:=((r:Int),(p:Int))) (by omega);have hla:(out++[((r:Int),(p:Int))]).length=out.length+1:=by simp
  have hsa:AQ G (out++[((r:Int),(p:Int))]) out.length=⟨G[out.length].1,G[out.length].2,(r:Int),(p:Int)⟩:=by rw[IZ hl (by rw[hla];omega)];simp
  have hfk:=hf _ (bc hl);have hoi:(out.length:Int)<(out.length:Int)+1:=by omega
  have qS:=fun n=>A3I n c (by omega) (by omega) G (out++[((r:Int),(p:Int))]) out.length (by omega) (by omega) (by omega) (fun g hg=>by have:=hf g hg; omega) (fun q hq=>by
   have e:(AQ G (out++[((r:Int),(p:Int))]) q).place=(out[q]).2:=by simp[AQ,List.getD_eq_getElem?_getD,List.getElem?_append_left hq,bp hq]
   rw[e];exact ho _ (bc hq))
  have ecell:EQ c s G rec out r p=if (JU c G (out++[((r:Int),(p:Int))]) out.length&&(BF c s (AQ G (out++[((r:Int),(p:Int))]) out.length)).enough)=true then rec (out++[((r:Int),(p:Int))]) else[]:=rfl
  have hfl:N6 (EQ c s G rec out r) (d+1) p=EQ c s G rec out r p++N6 (EQ c s G rec out r) d (p+1):=rfl;rw[cz]at hAM;rw[hfl];cases hS:JU c G (out++[((r:Int),(p:Int))]) out.length with
  |false=>
   rw[hS]at qS ecell
   rw[ecell]
   simp only[Bool.false_and,cw,if_false,cq]
   obtain⟨fr,c',o',g0,g1,g2,g3,g4,g9,g10,ih⟩:=ALE r hr d (p+1) (cc+1+1) o A (by omega) hoA (by omega)
   refine⟨fr,c',o',g0,g1,g2,g3,g4,g9,g10,fun n m hm=>?_⟩
   obtain⟨m,rfl⟩:=qNz m (by omega)
   have ih:=ih n m (by omega)
   clear g0 g9 hrec
   generalize A++N6 (EQ c s G rec out r) d (p+1)=F at *
   rw[AB]
   simp only[AD]at qS ih|-
   simp[AH]at qS ha1 ha2
   cases o<;>(simp[YQ,eY]at ih;simp[hp',hw,qS,ha1,ha2,AH,A4,AR,A7,AS,lX,BR,BG,YQ,eY,WE,ih])
  |true=>
   rw[hS]at qS ecell
   rw[Bool.true_and]at ecell
   have hx:D9 c (AQ G (out++[((r:Int),(p:Int))]) out.length)=true:=by simp only[JU,bq]at hS;exact hS.1
   have qE:=fun n=>ALA n c hc s hs _ hx (by rw[hsa];exact hfk.1) (by rw[hsa];exact⟨Int.le_trans (by decide) hfk.2.1,hfk.2.2⟩)
   have eg:A4 (tD (AQ G (out++[((r:Int),(p:Int))]) out.length))=[i G[out.length].1,i G[out.length].2]:=by rw[hsa];rfl
   have es:AH (spt (AQ G (out++[((r:Int),(p:Int))]) out.length))=[i r,i p]:=by rw[hsa];rfl
   rw[eg,es]at qE
   have hll:out.length<(out++[((r:Int),(p:Int))]).length:=by rw[hla];omega
   cases hE:(BF c s (AQ G (out++[((r:Int),(p:Int))]) out.length)).enough with
   |false=>
    rw[hE]at qE ecell
    rw[ecell]
    simp only[cw,if_false,cq]
    obtain⟨fr,c',o',g0,g1,g2,g3,g4,g9,g10,ih⟩:=ALE r hr d (p+1) (cc+1+1) o A (by omega) hoA (by omega)
    refine⟨fr,c',o',g0,g1,g2,g3,g4,g9,g10,fun n m hm=>?_⟩
    obtain⟨m,rfl⟩:=qNz m (by omega)
    have ih:=ih n m (by omega)
    clear g0 g9 hrec
    generalize A++N6 (EQ c s G rec out r) d (p+1)=F at *
    rw[AB]
    simp only[AD]at qS qE ih|-
    simp[AH]at qS qE ha1 ha2
    cases o<;>(simp[YQ,eY]at ih;simp[hp',hw,qS,ha1,ha2,AH,A4,AR,A7,AS,BR,BG,YQ,eY,WE,hoi,qE,hl,ih])
   |true=>
    rw[hE]at qE ecell
    simp only[if_true]at ecell
    rw[ecell]
    obtain⟨v,hv,qA⟩:=hrec ((r:Int),(p:Int)) (by simp only;omega) (by simp only;omega)
    have hR:=hM (out++[((r:Int),(p:Int))])
    rw[<-cd]
    obtain⟨fr,c',o',g0,g1,g2,g3,g4,g9,g10,ih⟩:=ALE r hr d (p+1) (cc+1+1+1) (some (cc+1+1)) (A++rec (out++[((r:Int),(p:Int))])) (by omega) (fun h=>by cases h) (by rw[bx];omega)
    refine⟨fr,c',o',g0,g1,g2,g3,g4,g9,g10,fun n m hm=>?_⟩
    obtain⟨m,rfl⟩:=qNz m (by omega)
    have ih:=ih n m (by omega)
    clear g0 g9 hrec ecell
    have happ:=BER (k:=A.length) (l:=rec (out++[((r:Int),(p:Int))])) (by omega)
    generalize A++rec (out++[((r:Int),(p:Int))])++N6 (EQ c s G rec out r) d (p+1)=F at *
    generalize rec (out++[((r:Int),(p:Int))])=R at *
    rw[AB]
    simp only[AD]at qS qE qA ih|-
    simp[AH]at qS qE qA ha1 ha2
    rcases hv with rfl|rfl|⟨rfl,rfl⟩
    all_goals cases o with
     |none=>
      obtain rfl:=hoA rfl
      simp[YQ,eY]at ih happ
      simp[hp',hw,qS,ha1,ha2,AH,A4,AR,A7,AS,BR,BG,YQ,eY,hoi,qE,qA,hl,happ,ih]
     |some γ=>
      simp[YQ,eY]at ih happ
      simp[hp',hw,qS,ha1,ha2,AH,A4,AR,A7,AS,BR,BG,YQ,eY,WE,AEJ,hoi,qE,qA,hl,happ,ih]
theorem A31:∀(d r cc:Nat) (o:Option Nat) (A:List (List (Int×Int))),r+d=c.beach.rows.toNat->(o=none->A=[])->A.length+d*(5*M)<=100000->∃fr c' o',(o'=none->A++N6 (fun r=>N6 (EQ c s G rec out r) c.beach.places.toNat 0) d r=[])/\A3 fr 9=some (true,YQ o' (A++N6 (fun r=>N6 (EQ c s G rec out r) c.beach.places.toNat 0) d r)) /\
  ∀n m,d<m->A9 (AE cn ann kn (n+K+1400) 69) aL (ann 69 (BV aL)) m ⟨cc,[(1,true,FI s),(2,true,.list false (G.map A4)),(3,true,.list false (out.map AH)),(4,true,.ptr 0 4 0 0),(9,true,YQ o A),(10,true,i r)],⟨[],(4,0,.box (AD c))::eY o A⟩⟩ =
   some (.exit 0,⟨c',fr,⟨[],(4,0,.box (AD c))::eY o' (A++N6 (fun r=>N6 (EQ c s G rec out r) c.beach.places.toNat 0) d r)⟩⟩)
 |0,r,cc,o,A,hd,hoA,hAM=>by
  have hro:=hc.be.ro;have hr':¬(r:Int)<c.beach.rows:=by omega
  rw[show N6 (fun r=>N6 (EQ c s G rec out r) c.beach.places.toNat 0) 0 r=[] from rfl,List.append_nil];cases o with
  |none=>
   refine⟨?fr,cc,none,hoA,?g5,fun n m hm=>?g9⟩
   case g9=>
    obtain⟨m,rfl⟩:=qNz m (by omega)
    rw[AB]
    simp[AD,hr',YQ,eY]
    rfl
   all_goals simp[YQ]
  |some γ=>
   refine⟨?fr2,cc,some γ,(fun h=>by cases h),?g52,fun n m hm=>?gP⟩
   case gP=>
    obtain⟨m,rfl⟩:=qNz m (by omega)
    rw[AB]
    simp[AD,hr',YQ,eY]
    rfl
   all_goals simp[YQ]
 |d+1,r,cc,o,A,hd,hoA,hAM=>by
  have hpl:=hc.be.pl;have hro:=hc.be.ro;have hr':(r:Int)<c.beach.rows:=by omega
  have hw:=BH (k:=r) (by omega);have h5:c.beach.places.toNat*M<=5*M:=bb (by omega) (bj _);rw[cz]at hAM;have hlen:(N6 (EQ c s G rec out r) c.beach.places.toNat 0).length<=c.beach.places.toNat*M:=Y5 (fun p=>gL hM r p) _ _;obtain⟨f1,c1,o1,h0,h1,h2,h3,h4,h9,h10,q⟩:=ALE c hc s hs G hG hf out hl ho rec M K hM hrec r hr' c.beach.places.toNat 0 cc o A (by omega) hoA (by omega);have q:=fun n m=>q (n+94) (m+101) (by omega);simp only[show ∀n,n+94+K+1300=n+K+1394 from fun n=>by omega]at q;have hfl:N6 (fun r=>N6 (EQ c s G rec out r) c.beach.places.toNat 0) (d+1) r=N6 (EQ c s G rec out r) c.beach.places.toNat 0++N6 (fun r=>N6 (EQ c s G rec out r) c.beach.places.toNat 0) d (r+1):=rfl;rw[hfl,<- cd];obtain⟨fr,c',o',g0,g9,ih⟩:=A31 d (r+1) c1 o1 (A++N6 (EQ c s G rec out r) c.beach.places.toNat 0) (by omega) h0 (by rw[bx]; omega);refine⟨fr,c',o',g0,g9,fun n m hm=>?_⟩;obtain⟨m,rfl⟩:=qNz m (by omega);have ih:=ih n m (by omega);clear g0 g9 hrec h0 hlen;generalize A++N6 (EQ c s G rec out r) c.beach.places.toNat 0++N6 (fun r=>N6 (EQ c s G rec out r) c.beach.places.toNat 0) d (r+1)=F at *;generalize A++N6 (EQ c s G rec out r) c.beach.places.toNat 0=B at *;rw[AB];simp only[AD]at q ih |-;cases o <;> cases o1 <;> (
   simp[YQ,eY]at q ih h9
   simp[hr',hw,YQ,eY,q,h1,h2,h3,h4,h9,h10,ih])
end
theorem nH(c:AM)(hc:BQ c)(s:List (List Int))(hs:LM c s)(G:List (Nat×Int))(hG:G.length<=3)(hf:∀g∈G,g.1<c.fams.length/\1<=g.2/\g.2<=4):∀(e:Nat) (out:List (Int×Int)),out.length+e=G.length->(∀x∈out,0<=x.2/\x.2<=1000)->∃v,Lis v (HI c s G e out)/\∀n,AZ cn kn (AE cn ann kn (n+1500*(e+1))) 89 [.agg (AD c),FI s,.list false (G.map A4),.list false (out.map AH)]=some v
 |0,out,hl,ho=>by
  have hl':(out.length:Int)=(G.length:Int):=by omega
  refine⟨.list false ([out].map L8),.inl rfl,fun n=>?_⟩;rw[AN rfl,AO cp b89 rfl (by simp[AD,AR,A7,AS,A4])];simp only[AD];simp[c89,AF,hl',L8]
 |e+1,out,hl,ho=>by
  have hlt:out.length<G.length:=by omega
  have hl':¬(out.length:Int)=(G.length:Int):=by omega
  have hM:∀o,(HI c s G e o).length<=25 ^ e:=RU hc s G e;have h25:25 ^ e<=25 ^ 2:=ck (by decide) (by omega);have hro:=hc.be.ro;have hrec:∀x:Int×Int,0<=x.2->x.2<=1000->∃v,Lis v (HI c s G e (out++[x]))/\∀j n,AZ cn kn (AE cn ann kn (n+1500*(e+1)+j)) 89 [.agg (AD c),FI s,.list false (G.map A4),.list false ((out++[x]).map AH)]=some v:=fun x h1 h2=>by
   obtain⟨v,hv,q⟩:=nH c hc s hs G hG hf e (out++[x]) (by simp; omega) (fun y hy=>by
    rcases List.mem_append.1 hy with h|h
    ·exact ho y h
    ·rw[cx.1 h]; exact⟨h1,h2⟩)
   refine⟨v,hv,fun j n=>?_⟩;rw[show n+1500*(e+1)+j=n+j+1500*(e+1) by omega];exact q (n+j)
  obtain⟨fr,c',o',g0,g9,q⟩:=A31 c hc s hs G (by omega) hf out hlt ho (HI c s G e) (25 ^ e) (1500*(e+1)) hM hrec c.beach.rows.toNat 0 1 none [] (by omega) (fun _=>rfl) (by
   have:c.beach.rows.toNat*(5*25 ^ e)<=5*(5*25 ^ 2):=bb (by omega) (bb (bj _) h25);simp only[bm];omega)
  have q:=fun n m=>q (n+93) (m+101) (by omega);simp only[show ∀n,n+93+1500*(e+1)+1400=n+1500*(e+1)+1493 from fun n=>by omega]at q;rw[cq]at g9 q g0;change A3 fr 9=some (true,YQ o' (HI c s G (e+1) out))at g9;change o'=none->HI c s G (e+1) out=[]at g0;change ∀n m,_=some (Exit.exit 0,(⟨c',fr,⟨[],(4,0,.box (AD c))::eY o' (HI c s G (e+1) out)⟩⟩:XS))at q;clear hrec hM;generalize HI c s G (e+1) out=R at *;have eK:∀n,n+1500*(e+1+1)=n+1500*(e+1)+1500:=fun n=>by omega
  simp only[eK];generalize 1500*(e+1)=K at *;cases o' with
  |none=>
   obtain rfl:=g0 rfl
   refine⟨.nil,.inr (.inr ⟨rfl,rfl⟩),fun n=>?_⟩
   rw[AN rfl,AO cp b89 rfl (by simp[AD,AR,A7,AS,A4])]
   simp only[AD]at q|-
   simp[YQ,eY]at q g9
   simp[c89,AF,hl',q,g9]
  |some γ=>
   refine⟨.list false (R.map L8),.inl rfl,fun n=>?_⟩
   rw[AN rfl,AO cp b89 rfl (by simp[AD,AR,A7,AS,A4])]
   simp only[AD]at q|-
   simp[YQ,eY]at q g9
   simp[c89,AF,hl',q,g9]
   rw[bz (by simp)]
   refine⟨fun e he v hv=>?_,rfl⟩
   obtain⟨l,_,rfl⟩:=bh.1 he
   simp only[L8,bn,bf,or_false]at hv
   subst hv
   simp
theorem Y6{α:Type}{f:Nat->List α}{x:α}:∀{d p:Nat},x∈N6 f d p↔∃q,p<=q/\q<p+d/\x∈f q
 |0,p=>by
  constructor
  ·intro h;cases h
  ·rintro ⟨q,h1,h2,_⟩;omega
 |d+1,p=>by
  show x∈f p++N6 f d (p+1)↔_;rw[List.mem_append,Y6];constructor
  ·rintro (h|⟨q,h1,h2,h3⟩)
   ·exact⟨p,by omega,by omega,h⟩
   ·exact⟨q,by omega,by omega,h3⟩
  ·rintro ⟨q,h1,h2,h3⟩;by_cases e:q=p
   ·exact .inl (e▸h3)
   ·exact .inr ⟨q,by omega,by omega,h3⟩
def jX(c:AM)(s:List (List Int))(G:List (Nat×Int))(ss:List (Int×Int))(k:Nat):Bool:=JU c G ss k&&(BF c s (AQ G ss k)).enough
theorem gM{c:AM}{s:List (List Int)}{G:List (Nat×Int)}{ss:List (Int×Int)}{k j:Nat}(h:k<j):jX c s G (ss.take j) k=jX c s G ss k:=by unfold jX;rw[WC h];congr 1;rw[<-ZX (ss:=ss.take j),List.take_take,show min (k+1) j=k+1 by omega,ZX]
theorem M5{c:AM}(hc:BQ c){s:List (List Int)}{G:List (Nat×Int)}(hz:∀g∈G,1<=g.2){ss:List (Int×Int)}:∀{e:Nat} {out:List (Int×Int)},out.length+e=G.length->(ss∈HI c s G e out↔ss.length=G.length/\ss.take out.length=out/\∀k,out.length<=k->k<G.length->jX c s G ss k=true)
 |0,out,hl=>by
  show ss∈[out]↔_;rw[cx];constructor
  ·rintro rfl;exact⟨by omega,bz (bj _),fun k h1 h2=>by omega⟩
  ·rintro ⟨h1,h2,_⟩;rw[<-h2,bz (by omega)]
 |e+1,out,hl=>by
  have hro:=hc.be.ro;have hpl:=hc.be.pl;show ss∈N6 _ _ _↔_;rw[Y6];constructor
  ·rintro ⟨r,_,hr,h⟩;obtain⟨p,_,hp,h⟩:=Y6.1 h;unfold EQ at h;split at h
   ·rename_i hk;obtain⟨h1,h2,h3⟩:=(M5 hc hz (out:=out++[((r:Int),(p:Int))]) (by simp;omega)).1 h;rw[bx,List.length_singleton]at h2 h3;have ht:ss.take out.length=out:=by have:=congrArg (List.take out.length) h2;rw[List.take_take,show min out.length (out.length+1)=out.length by omega]at this;rw[this];simp
    refine⟨h1,ht,fun k hk1 hk2=>?_⟩;by_cases e1:k=out.length
    ·subst e1;rw[<-gM (j:=out.length+1) (by omega),h2];exact hk
    ·exact h3 k (by omega) hk2
   ·cases h
  ·rintro ⟨h1,h2,h3⟩;have hlt:out.length<G.length:=by omega
   have hls:out.length<ss.length:=by omega
   have hk:=h3 out.length (bj _) hlt;have hfit:D9 c (AQ G ss out.length)=true:=by simp only[jX,JU,bq]at hk;exact hk.1.1
   have hsp:=IZ hlt hls;obtain⟨r,p,e1,e2,g1,g2⟩:=S6 hfit;rw[hsp]at e1 e2 g2;simp only at e1 e2 g2;have hg:=hz _ (bc hlt);have hx:out++[((r:Int),(p:Int))]=ss.take (out.length+1):=by rw[bw hls,h2];congr 1;rw[<-e1,<-e2]
   refine⟨r,by omega,by omega,Y6.2 ⟨p,by omega,by omega,?_⟩⟩;unfold EQ;rw[hx];have hk':jX c s G (ss.take (out.length+1)) out.length=true:=by rw[gM (by omega)];exact hk
   unfold jX at hk';have hlt2:(ss.take (out.length+1)).length=out.length+1:=by rw[bg];omega
   rw[if_pos hk'];refine(M5 hc hz (by rw[bg];omega)).2 ⟨h1,?_,fun k hk1 hk2=>?_⟩
   ·rw[bg,show min (out.length+1) ss.length=out.length+1 by omega]
   ·rw[bg]at hk1;exact h3 k (by omega) hk2
def OH(c:AM):List (List (Int×Int)):=HI c (EA c) (AP c []) (AP c []).length []
theorem Z0{c:AM}(hc:BQ c)(hp:CH (AP c [])<=(CZ c:Int)){ss:List (Int×Int)}:ss∈OH c↔HG c (EA c) ss=true:=by
 rw[<-XU hc];unfold OH;rw[M5 (s:=EA c) (G:=AP c []) (ss:=ss) (e:=(AP c []).length) (out:=[]) hc (fun g hg=>(FQ hc [] _ (bj _) g hg).2.1) (by rw[bm,Nat.zero_add])];unfold Y4 L6;simp only[bq,decide_eq_true_eq,bk,List.mem_range,jX,bm,List.take_zero,true_and,cg,forall_const];constructor
 ·rintro ⟨h1,h2⟩;exact⟨⟨h1,hp,fun k hk=>(h2 k (by omega)).1⟩,fun k hk=>(h2 k (by omega)).2⟩
 ·rintro ⟨⟨h1,_,h3⟩,h4⟩;exact⟨h1,fun k hk=>⟨h3 k (by omega),h4 k (by omega)⟩⟩
theorem nI{c:AM}(hc:BQ c){ss:List (Int×Int)}(h:ss∈OH c):ss.length=(AP c []).length/\∀k,k<ss.length->D9 c (AQ (AP c []) ss k)=true:=by obtain⟨h1,_,h3⟩:=(M5 (s:=EA c) (G:=AP c []) (ss:=ss) (e:=(AP c []).length) (out:=[]) hc (fun g hg=>(FQ hc [] _ (bj _) g hg).2.1) (by rw[bm,Nat.zero_add])).1 h;refine⟨h1,fun k hk=>?_⟩;have:=h3 k (cg _) (by omega);simp only[jX,JU,bq]at this;exact this.1.1
def GJ(acc x:Int×Int):Int×Int:=if acc.1<x.1\/(x.1=acc.1/\x.2<acc.2) then x else acc
def OW(l:List (Int×Int)):Int×Int:=l.foldl GJ (-1,0)
def geQ(a b:Int×Int):Prop:=b.1<a.1\/b.1=a.1/\a.2<=b.2
theorem AP4:∀(l:List (Int×Int)) (acc:Int×Int),(l.foldl GJ acc=acc\/l.foldl GJ acc∈l)/\geQ (l.foldl GJ acc) acc/\∀x∈l,geQ (l.foldl GJ acc) x
 |[],acc=>⟨.inl rfl,.inr ⟨rfl,Int.le_refl _⟩,fun x hx=>by cases hx⟩
 |y::l,acc=>by
  obtain⟨h1,h2,h3⟩:=AP4 l (GJ acc y);rw[List.foldl_cons];have hs:(GJ acc y=y/\geQ y acc)\/(GJ acc y=acc/\geQ acc y):=by
   unfold GJ geQ;split
   ·left;refine⟨rfl,?_⟩;omega
   ·right;refine⟨rfl,?_⟩;omega
  have htr:∀{a b d:Int×Int},geQ a b->geQ b d->geQ a d:=fun {a b d} h1 h2=>by unfold geQ at *;omega
  have hrf:∀a:Int×Int,geQ a a:=fun a=>.inr ⟨rfl,Int.le_refl _⟩;refine⟨?_,?_,fun x hx=>?_⟩
  ·rcases h1 with h|h
   ·rcases hs with⟨e,_⟩|⟨e,_⟩
    ·right;rw[h,e];simp
    ·left;rw[h,e]
   ·right;exact List.mem_cons_of_mem _ h
  ·rcases hs with⟨e,g⟩|⟨e,g⟩
   ·exact htr h2 (by rw[e];exact g)
   ·exact htr h2 (by rw[e];exact hrf _)
  ·rcases bn.1 hx with rfl|hx
   ·rcases hs with⟨e,g⟩|⟨e,g⟩
    ·exact htr h2 (by rw[e];exact hrf _)
    ·exact htr h2 (by rw[e];exact g)
   ·exact h3 x hx
def S7(c:AM):Int×Int:=OW ((OH c).map fun ss=>(L7 c ss,M3 c ss))
def gN(c:AM):Int×Int×Bool:=if (CZ c:Int)<CH (AP c []) then(0,0,false) else if (S7 c).1<0 then(0,0,false) else((S7 c).1,(S7 c).2,true)
theorem xF{c:AM}(hc:BQ c){ss:List (Int×Int)}(h:ss∈OH c):0<=L7 c ss/\L7 c ss<=60/\0<=M3 c ss/\M3 c ss<=12:=by
 obtain⟨h1,h2⟩:=nI hc h;have hgm:∀g∈AP c [],0<=g.2/\g.2<=4:=fun g hg=>by have:=FQ hc [] _ (bj _) g hg;omega
 have a:=xD (ZY hc) hgm (by omega) h2 (n:=ss.length) (bj _);have b:=xE (c:=c) (ss:=ss) hgm (by omega) (n:=ss.length) (bj _);have hfl:=hc.fl;have hgl:=ED c;unfold L7 M3;omega
theorem AEL{c:AM}(h0:DT c=0):gN c=match GA c with
  |some q=>(q.2.sun,q.2.carried,true)
  |none=>(0,0,false):=by
 have hc:=F1 h0
 unfold gN
 obtain⟨f1,f2,f3⟩:=AP4 ((OH c).map fun ss=>(L7 c ss,M3 c ss)) (-1,0)
 change S7 c=(-1,0)\/S7 c∈_ at f1
 change ∀x∈_,geQ (S7 c) x at f3
 cases hO:GA c with
 |none=>
  simp only
  by_cases hp:(CZ c:Int)<CH (AP c [])
  ·rw[if_pos hp]
  ·rw[if_neg hp];have hn:OH c=[]:=List.eq_nil_iff_forall_not_mem.2 fun ss hm=>by have:=(Z0 hc (by omega)).1 hm;rw[ALC h0 hO]at this;cases this
   have e:S7 c=(-1,0):=by unfold S7;rw[hn];rfl
   rw[e];rfl
 |some q=>
  obtain⟨b,t⟩:=q
  obtain⟨g1,g2,g3⟩:=gC hO
  have hok:=jQ.1 g1
  have ha:=AD7 hok
  have hss:(HG c (AV c) (b.map spt))=true:=ha
  rw[RT hc]at ha
  obtain⟨s1,s2⟩:=wU hok
  have hpe:CH (AP c [])<=(CZ c:Int):=by have:=XU hc (s:=EA c) (ss:=b.map spt);rw[ha]at this;simp only[Y4,L6,bq,decide_eq_true_eq]at this;exact this.1.2.1
  rw[if_neg (by omega)]
  have hm:b.map spt∈OH c:=(Z0 hc hpe).2 ha
  obtain⟨e1,e2⟩:=AP3 hc s1
  rw[s2,<-g2]at e1 e2
  have h3:=f3 _ (bh.2 ⟨_,hm,rfl⟩)
  simp only[geQ]at h3
  rw[<-e1,<-e2]at h3
  have hb:=xF hc hm
  rw[<-e1,<-e2]at hb
  rcases f1 with h|h
  ·rw[h]at h3;simp only at h3;omega
  ·obtain⟨ss,hs1,hs2⟩:=bh.1 h;have hb2:=ALD h0 hO ((Z0 hc hpe).1 hs1);have hb3:=xF hc hs1;rw[<-hs2]at h3|-;simp only at h3 hb2|-;rw[if_neg (by omega)];simp only[Prod.mk.injEq,and_true];omega
theorem AEM{ss:List (Int×Int)}(f:Nat):∀e∈ss.map AH,∀v∈e,AG (f+1) v=true:=fun e he v hv=>by obtain⟨l,_,rfl⟩:=bh.1 he;simp only[AH,bn,bf,or_false]at hv;rcases hv with rfl|rfl<;>rfl
theorem Z1{G:List (Nat×Int)}(f:Nat):∀e∈G.map A4,∀v∈e,AG (f+1) v=true:=fun e he v hv=>by obtain⟨l,_,rfl⟩:=bh.1 he;simp only[A4,bn,bf,or_false]at hv;rcases hv with rfl|rfl<;>rfl
theorem A32(c:AM)(hc:BQ c)(L:List (List (Int×Int)))(hL:∀ss∈L,ss∈OH c)(hLl:L.length<=16000)(b:Bool):∀(d k:Nat),k+d=L.length->∃fr,A3 fr 9=some (true,i (OW (L.map fun ss=>(L7 c ss,M3 c ss))).1)/\A3 fr 10=some (true,i (OW (L.map fun ss=>(L7 c ss,M3 c ss))).2)/\∀n m,d<m->A9 (AE cn ann kn (n+700) 64) RV (ann 64 (BV RV)) m ⟨1,[(1,true,FI (EA c)),(2,true,.ptr 0 2 0 0),(7,true,sl ((AP c []).map A4)),(8,true,.list b (L.map L8)),(9,true,i (OW ((L.take k).map fun ss=>(L7 c ss,M3 c ss))).1),(10,true,i (OW ((L.take k).map fun ss=>(L7 c ss,M3 c ss))).2),(11,true,i k)],⟨[],[(2,0,.box (AD c))]⟩⟩ =
  some (.exit 0,⟨1,fr,⟨[],[(2,0,.box (AD c))]⟩⟩)
 |0,k,hd=>by
  obtain rfl:k=L.length:=by omega
  rw[List.take_length];generalize OW (L.map fun ss=>(L7 c ss,M3 c ss))=A;generalize EA c=SR;generalize sl ((AP c []).map A4)=GG;refine⟨?fr,?g1,?g2,fun n m hm=>?g9⟩;case g9=>
   obtain⟨m,rfl⟩:=qNz m (by omega)
   rw[AB]
   simp[AD]
   rfl
  all_goals simp
 |d+1,k,hd=>by
  have hk:k<L.length:=by omega
  have hw:=BH (k:=k) (by omega);have hm:=hL _ (bc hk);obtain⟨h1,h2⟩:=nI hc hm;have hfl:=hc.fl;have hgl:=ED c;have hgm:∀g∈AP c [],g.1<c.fams.length/\0<=g.2/\g.2<=4:=fun g hg=>by have:=FQ hc [] _ (bj _) g hg;omega
  have qS:∀n,AZ cn kn (AE cn ann kn (n+500)) 37 [FI (EA c),.list false ((AP c []).map A4),.list false (L[k].map AH)]=some (i (L7 c L[k])):=fun n=>A3W c hc (EA c) (ZY hc) (AP c []) L[k] hgm (by omega) (by omega) h2 n;have qC:∀n,AZ cn kn (AE cn ann kn (n+500)) 38 [.agg (AD c),.list false ((AP c []).map A4),.list false (L[k].map AH)]=some (i (M3 c L[k])):=fun n=>AEI c hc (AP c []) L[k] hgm (by omega) (by omega) h2 n;have e8:(L[k].map AH).all (fun e=>e.all (AG 8))=true:=bk.2 fun e he=>bk.2 fun v hv=>AEM 7 e he v hv;have g8:((AP c []).map A4).all (fun e=>e.all (AG 8))=true:=bk.2 fun e he=>bk.2 fun v hv=>Z1 7 e he v hv;have eq1:L8 L[k]=[.list false (L[k].map AH)]:=rfl;obtain⟨fr,f1,f2,ih⟩:=A32 c hc L hL hLl b d (k+1) (by omega);refine⟨fr,f1,f2,fun n m hm=>?_⟩;obtain⟨m,rfl⟩:=qNz m (by omega);have ih:=ih n m (by omega);have hst:OW ((L.take (k+1)).map fun ss=>(L7 c ss,M3 c ss))=GJ (OW ((L.take k).map fun ss=>(L7 c ss,M3 c ss))) (L7 c L[k],M3 c L[k]):=by rw[bw hk,List.map_append];unfold OW;rw[List.foldl_append];rfl
  rw[hst]at ih;clear f1 f2 hst hL;generalize OW ((L.take k).map fun ss=>(L7 c ss,M3 c ss))=A at *;generalize L7 c L[k]=S at *;generalize M3 c L[k]=R at *;have hgo:(L.map L8)[k]? = some [.list false (L[k].map AH)]:=by rw[List.getElem?_map,bp hk];rfl
  generalize L[k].map AH=LP at *;generalize EA c=SR at *;generalize (AP c []).map A4=GG at *;rw[AB];simp only[AD,GJ]at ih qC qS|-;by_cases hb:A.1<S
  ·rw[if_pos (.inl hb)]at ih;simp at ih hgo;simp[hk,hw,hb,eq1,qS,qC,e8,g8,AS,AR,A7,ih];done
  ·by_cases hb1:S=A.1
   ·by_cases hb2:R<A.2
    ·rw[if_pos (.inr ⟨hb1,hb2⟩)]at ih;simp at ih hgo;simp[hk,hw,hb1,hb2,eq1,qS,qC,e8,g8,AS,AR,A7];try rw[hb1]at ih
     try simpa using ih
    ·rw[if_neg (by omega)]at ih;simp at ih hgo;simp[hk,hw,hb1,hb2,eq1,qS,qC,e8,g8,AS,AR,A7,ih]
   ·rw[if_neg (by omega)]at ih;simp at ih hgo;simp[hk,hw,hb,hb1,eq1,qS,qC,e8,g8,AS,AR,A7,ih]
set_option maxHeartbeats 4000000 in
theorem AEN(n:Nat)(c:AM)(hc:BQ c):AZ cn kn (AE cn ann kn (n+17000)) 39 [.agg (AD c),FI (EA c)]=some (.tup [i (gN c).1,i (gN c).2.1,.bool (gN c).2.2]):=by
 rw[AN rfl,AO Tryz.func39 b39 rfl (by simp[AD,AR,A7,AS])];have hro:=hc.be.ro;have hch:=hc.ch;have hfl:=hc.fl;have hgl:=ED c;have hgm:∀g∈AP c [],g.1<c.fams.length/\1<=g.2/\g.2<=4:=fun g hg=>FQ hc [] _ (bj _) g hg;have qG:=fun n=>AEG n c (by omega);have qP:=fun n=>AK3 n (AP c []) (by omega) (fun g hg=>by have:=hgm g hg;omega);have qC:=fun n=>AED n c (by omega) (fun l hl=>by have:=hc.cr l hl;have:=hc.be.pl;omega);have g8:=eq_true (Z1 (G:=AP c []) 7);have g8b:((AP c []).map A4).all (fun e=>e.all (AG 8))=true:=bk.2 fun e he=>bk.2 fun v hv=>Z1 7 e he v hv;obtain⟨v,hv,qA⟩:=nH c hc (EA c) (ZY hc) (AP c []) (by omega) hgm (AP c []).length [] (by simp) (by simp);have qA:∀n,AZ cn kn (AE cn ann kn (n+6000)) 89 [.agg (AD c),FI (EA c),.list false ((AP c []).map A4),.list false []]=some v:=fun n=>by have h:=qA (n+(6000-1500*((AP c []).length+1)));rw[show n+(6000-1500*((AP c []).length+1))+1500*((AP c []).length+1)=n+6000 by omega]at h;exact h
 have hLl:(OH c).length<=15625:=cj (RU hc _ _ _ _) (ck (n:=25) (by decide) (show(AP c []).length<=3 by omega));change Lis v (OH c)at hv;unfold gN;by_cases hp:(CZ c:Int)<CH (AP c [])
 ·rw[if_pos hp];generalize (AP c []).map A4=GG at *;generalize CH (AP c [])=PG at *;generalize CZ c=CN at *;simp only[AD]at qG qP qC|-;simp[c39,AF,qG,qP,qC,hp,g8b,AS,AR,A7]
 rw[if_neg hp];have hq:∀b,∃fr,A3 fr 9=some (true,i (S7 c).1)/\A3 fr 10=some (true,i (S7 c).2)/\∀n m,A9 (AE cn ann kn (n+700) 64) RV (ann 64 (BV RV)) (m+15700) ⟨1,[(1,true,FI (EA c)),(2,true,.ptr 0 2 0 0),(7,true,sl ((AP c []).map A4)),(8,true,.list b ((OH c).map L8)),(9,true,i (-1)),(10,true,i 0),(11,true,i 0)],⟨[],[(2,0,.box (AD c))]⟩⟩ =
   some (.exit 0,⟨1,fr,⟨[],[(2,0,.box (AD c))]⟩⟩):=fun b=>by
  obtain⟨fr,f1,f2,q⟩:=A32 c hc (OH c) (fun ss h=>h) (by omega) b (OH c).length 0 (by omega)
  exact⟨fr,f1,f2,fun n m=>q n (m+15700) (by omega)⟩
 have hcl:∀f,∀e∈(OH c).map L8,∀w∈e,AG (f+3) w=true:=fun f e he w hw=>by obtain⟨l,_,rfl⟩:=bh.1 he;simp only[L8,bn,bf,or_false]at hw;subst hw;simp
 have hc7:=eq_true (hcl 4);have hc8:=eq_true (hcl 5);have hc9:=eq_true (hcl 6);have hbg:S7 c=OW ((OH c).map fun ss=>(L7 c ss,M3 c ss)):=rfl;rcases hv with rfl|rfl|⟨hnil,rfl⟩
 ·obtain⟨fr,f1,f2,q⟩:=hq false;clear hbg hq;generalize S7 c=B at *;generalize (OH c).map L8=LQ at *;generalize (AP c []).map A4=GG at *;generalize CH (AP c [])=PG at *;generalize CZ c=CN at *;generalize EA c=SR at *;simp only[AD]at qG qP qC qA q|-;simp at q;by_cases hn:B.1<0
  ·rw[if_pos hn];simp[c39,AF,qG,qP,qC,qA,hp,hn,q,f1,f2,g8b,AS,AR,A7]
  ·rw[if_neg hn];simp[c39,AF,qG,qP,qC,qA,hp,hn,q,f1,f2,g8b,AS,AR,A7]
 ·obtain⟨fr,f1,f2,q⟩:=hq true;clear hbg hq;generalize S7 c=B at *;generalize (OH c).map L8=LQ at *;generalize (AP c []).map A4=GG at *;generalize CH (AP c [])=PG at *;generalize CZ c=CN at *;generalize EA c=SR at *;simp only[AD]at qG qP qC qA q|-;simp at q;by_cases hn:B.1<0
  ·rw[if_pos hn];simp[c39,AF,qG,qP,qC,qA,hp,hn,q,f1,f2,g8b,AS,AR,A7]
  ·rw[if_neg hn];simp[c39,AF,qG,qP,qC,qA,hp,hn,q,f1,f2,g8b,AS,AR,A7]
 ·have eb:S7 c=(-1,0):=by rw[hbg,hnil];rfl
  rw[eb,if_pos (by decide)];clear hq hbg eb;generalize (AP c []).map A4=GG at *;generalize CH (AP c [])=PG at *;generalize CZ c=CN at *;generalize EA c=SR at *;simp only[AD]at qG qP qC qA|-;simp[c39,AF,qG,qP,qC,qA,hp,AB,g8b,AS,AR,A7]
theorem A33(n:Nat)(c:AM)(hl:c.beach.breaks.length<=90)(s:Int×Int):AZ cn kn (AE cn ann kn (n+300)) 59 [.agg (AD c),.agg (AH s)]=some (.agg (AD (B7 c s))):=by
 rw[AN rfl,AO Tryz.func59 b59 rfl (by simp[AD,AH,AR,A7,AS])];have ha:∀k,k<=100->BZ cn 59 k [AH s]=true:=fun k hk=>by rw[BT (by simp) (by simp)];simp[maxLen,AH];omega
 have ha0:=ha 0 (by omega);have haL:=ha c.beach.breaks.length (by omega);have hb:BZ cn 59 0 (c.beach.breaks.map AH)=true:=by rw[BT (by simp) (by simp)];simp[maxLen,AH];omega
 have hb0:BZ cn 59 0 []=true:=by kernel_rfl
 have hcw:AD (B7 c s)=[i c.beach.last,i c.beach.rows,i c.beach.places,i c.beach.reach,li c.beach.face,li c.beach.sun,FI c.beach.winds,.list false ((c.beach.breaks++[s]).map AH),.list false (c.beach.notes.map AH),FI c.plan,.list false (c.chairs.map AR),.list false (c.fams.map AS)]:=rfl;rw[hcw];simp only[AD];cases hB:c.beach.breaks with
 |nil=>
  simp[AH]at ha0
  simp[c59,AF,AH,AR,A7,AS,ha0,hb0,JE,BR,C4,BG,FU,E7]
  done
 |cons b bs=>
  rw[hB]at haL hb
  simp[AH]at haL hb
  simp[c59,AF,AH,AR,A7,AS,haL,hb,JE,BR,C4,BG,FU,E7]
  done
@[simp] theorem BB0:IW cn 59=false:=by kernel_rfl
section
variable (σ:Nat->Nat)(δ:Nat)
theorem AEO:cm (V.ren σ δ)∘AW=AW:=funext fun l=>by simp[AW]
theorem A34:cm (V.ren σ δ)∘A7=A7:=funext fun l=>by simp[A7]
theorem ALF:cm (V.ren σ δ)∘AH=AH:=funext fun l=>by simp[AH]
theorem xG:cm (V.ren σ δ)∘AS=AS:=funext fun l=>by simp[AS]
theorem ALG:cm (V.ren σ δ)∘AY=AY:=funext fun l=>by simp[AY,AEO]
theorem xH:cm (V.ren σ δ)∘AR=AR:=funext fun l=>by simp[AR,A34]
end
def acQ(a:ON):Int×Int:=match a with
 |some a=>a.1
 |none=>(0,0)
def xI(a:ON):Int:=match a with
 |some a=>a.2.sun
 |none=>0
def YR(c:AM)(a:ON):AA:=[(1,0,.box (AD c)),(2,1,.box [i 0,i 0]),(5,2,.box (AH (acQ a)))]
set_option maxHeartbeats 2000000 in
theorem AEQ(c:AM)(h0:DT c=0)(hc:BQ c)(h3:c.beach.breaks.length<=3)(r:Nat)(hr:(r:Int)<c.beach.rows):∀(k p:Nat) (a:ON) (cc:Nat),p+k=c.beach.places.toNat->2<cc ->
  ∃(c':Nat) (fr:Fr),cc<=c'/\A3 fr 1=some (true,.ptr 0 1 0 0)/\A3 fr 2=some (true,.ptr 0 2 1 0)/\A3 fr 5=some (true,.ptr 0 5 2 0)/\A3 fr 6=some (true,i (xI (M0 c r k p a)))/\A3 fr 7=some (true,.bool (M0 c r k p a).isSome)/\A3 fr 8=some (true,i r)/\∀n m,k<m ->
   A9 (AE cn ann kn (n+17500) 58) aU (ann 58 (BV aU)) m ⟨cc,[(1,true,.ptr 0 1 0 0),(2,true,.ptr 0 2 1 0),(5,true,.ptr 0 5 2 0),(6,true,i (xI a)),(7,true,.bool a.isSome),(8,true,i r),(9,true,i p)],⟨[],YR c a⟩⟩ =
    some (.exit 2,⟨c',fr,⟨[],YR c (M0 c r k p a)⟩⟩)
 |0,p,a,cc,hd,hcc=>by
  have hpl:=hc.be.pl;have hnot:¬((p:Int)<c.beach.places):=by omega
  refine⟨cc,?fr,bj _,?g1,?g2,?g3,?g4,?g5,?g6,fun n m hm=>?g⟩;case g=>
   obtain⟨m,rfl⟩:∃k',m=k'+1:=⟨m-1,by omega⟩
   simp[AB,hnot,M0,YR,AD]
   rfl
  all_goals simp[M0]
 |k+1,p,a,cc,hd,hcc=>by
  have hpl:=hc.be.pl;have hro:=hc.be.ro;have hlt:(p:Int)<c.beach.places:=by omega
  have hw:=BH (k:=p) (by omega);have hsp:D5 c.beach ((r:Int),(p:Int))=true:=by simp only[D5,bq,C6];omega
  have hx0:=ZP h0 h3 hsp;have hx:=F1 hx0;have qW:=fun n=>A33 n c (by omega) ((r:Int),(p:Int));have qS:=fun n=>ATG n (B7 c ((r:Int),(p:Int))) hx;have qB:=fun n=>AEN n (B7 c ((r:Int),(p:Int))) hx;rw[AEL hx0]at qB;have hcw:AD (B7 c ((r:Int),(p:Int)))=[i c.beach.last,i c.beach.rows,i c.beach.places,i c.beach.reach,li c.beach.face,li c.beach.sun,FI c.beach.winds,.list false ((c.beach.breaks++[((r:Int),(p:Int))]).map AH),.list false (c.beach.notes.map AH),FI c.plan,.list false (c.chairs.map AR),.list false (c.fams.map AS)]:=rfl;have hlast:M0 c r (k+1) p a=M0 c r k (p+1) (C0 c a ((r:Int),(p:Int))):=rfl;rw[hlast];have h2:2<cc+1+1:=by omega
  cases hO:GA (B7 c ((r:Int),(p:Int)))with
  |none=>
   have hst:C0 c a ((r:Int),(p:Int))=a:=by unfold C0;rw[hO]
   rw[hst]
   rw[hO]at qB
   obtain⟨c',fr,g0,g1,g2,g5,g6,g7,g8,ih⟩:=AEQ c h0 hc h3 r hr k (p+1) a (cc+1+1) (by omega) (by omega)
   refine⟨c',fr,by omega,g1,g2,g5,g6,g7,g8,fun n m hm=>?_⟩
   obtain⟨m,rfl⟩:∃k',m=k'+1:=⟨m-1,by omega⟩
   have ih:=ih n m (by omega)
   generalize M0 c r k (p+1) a=FIN at *
   rw[AB]
   simp only[hcw]at qW qS qB
   simp only[YR,AD]at qW qS qB ih|-
   simp[AH]at ih qW qS qB
   simp[hlt,hw,qW,qS,qB,ih,AH,AR,A7,AS,AEO,ALG,ALF,xH,xG,BR,BG]
  |some q0=>
   rw[hO]at qB
   cases a with
   |none=>
    have hst:C0 c none ((r:Int),(p:Int))=some (((r:Int),(p:Int)),q0.2):=by unfold C0;rw[hO]
    rw[hst]
    obtain⟨c',fr,g0,g1,g2,g5,g6,g7,g8,ih⟩:=AEQ c h0 hc h3 r hr k (p+1) (some (((r:Int),(p:Int)),q0.2)) (cc+1+1) (by omega) (by omega)
    refine⟨c',fr,by omega,g1,g2,g5,g6,g7,g8,fun n m hm=>?_⟩
    obtain⟨m,rfl⟩:∃k',m=k'+1:=⟨m-1,by omega⟩
    have ih:=ih n m (by omega)
    generalize M0 c r k (p+1) (some (((r:Int),(p:Int)),q0.2))=FIN at *
    rw[AB]
    simp only[hcw]at qW qS qB
    simp only[YR,AD]at qW qS qB ih|-
    simp[acQ,xI,AH]at ih qW qS qB
    simp[hlt,hw,qW,qS,qB,ih,h2,acQ,xI,AH,AR,A7,AS,AEO,ALG,ALF,xH,xG,BR,BG]
   |some a=>
    by_cases hl2:a.2.sun<q0.2.sun
    ·have hst:C0 c (some a) ((r:Int),(p:Int))=some (((r:Int),(p:Int)),q0.2):=by unfold C0;rw[hO];exact if_pos hl2
     rw[hst];obtain⟨c',fr,g0,g1,g2,g5,g6,g7,g8,ih⟩:=AEQ c h0 hc h3 r hr k (p+1) (some (((r:Int),(p:Int)),q0.2)) (cc+1+1) (by omega) (by omega);refine⟨c',fr,by omega,g1,g2,g5,g6,g7,g8,fun n m hm=>?_⟩;obtain⟨m,rfl⟩:∃k',m=k'+1:=⟨m-1,by omega⟩;have ih:=ih n m (by omega);generalize M0 c r k (p+1) (some (((r:Int),(p:Int)),q0.2))=FIN at *;rw[AB];simp only[hcw]at qW qS qB;simp only[YR,AD]at qW qS qB ih|-;simp[acQ,xI,AH]at ih qW qS qB;simp[hlt,hw,qW,qS,qB,ih,h2,hl2,acQ,xI,AH,AR,A7,AS,AEO,ALG,ALF,xH,xG,BR,BG]
    ·have hst:C0 c (some a) ((r:Int),(p:Int))=some a:=by unfold C0;rw[hO];exact if_neg hl2
     rw[hst];obtain⟨c',fr,g0,g1,g2,g5,g6,g7,g8,ih⟩:=AEQ c h0 hc h3 r hr k (p+1) (some a) (cc+1+1) (by omega) (by omega);refine⟨c',fr,by omega,g1,g2,g5,g6,g7,g8,fun n m hm=>?_⟩;obtain⟨m,rfl⟩:∃k',m=k'+1:=⟨m-1,by omega⟩;have ih:=ih n m (by omega);generalize M0 c r k (p+1) (some a)=FIN at *;rw[AB];simp only[hcw]at qW qS qB;simp only[YR,AD]at qW qS qB ih|-;simp[acQ,xI,AH]at ih qW qS qB;simp[hlt,hw,qW,qS,qB,ih,hl2,acQ,xI,AH,AR,A7,AS,AEO,ALG,ALF,xH,xG,BR,BG]
theorem A35(c:AM)(h0:DT c=0)(hc:BQ c)(h3:c.beach.breaks.length<=3):∀(k r:Nat) (a:ON) (cc:Nat),r+k=c.beach.rows.toNat->2<cc ->
  ∃(c':Nat) (fr:Fr),cc<=c'/\A3 fr 2=some (true,.ptr 0 2 1 0)/\A3 fr 5=some (true,.ptr 0 5 2 0)/\A3 fr 6=some (true,i (xI (V9 c k r a)))/\A3 fr 7=some (true,.bool (V9 c k r a).isSome)/\∀n m,k<m ->
   A9 (AE cn ann kn (n+17600) 58) aV (ann 58 (BV aV)) m ⟨cc,[(1,true,.ptr 0 1 0 0),(2,true,.ptr 0 2 1 0),(5,true,.ptr 0 5 2 0),(6,true,i (xI a)),(7,true,.bool a.isSome),(8,true,i r)],⟨[],YR c a⟩⟩ =
    some (.exit 0,⟨c',fr,⟨[],YR c (V9 c k r a)⟩⟩)
 |0,r,a,cc,hd,hcc=>by
  have hro:=hc.be.ro;have hnot:¬((r:Int)<c.beach.rows):=by omega
  refine⟨cc,?fr,bj _,?g2,?g3,?g4,?g5,fun n m hm=>?g⟩;case g=>
   obtain⟨m,rfl⟩:∃k',m=k'+1:=⟨m-1,by omega⟩
   simp[AB,hnot,V9,YR,AD]
   rfl
  all_goals simp[V9]
 |k+1,r,a,cc,hd,hcc=>by
  have hro:=hc.be.ro;have hlt:(r:Int)<c.beach.rows:=by omega
  have hw:=BH (k:=r) (by omega);obtain⟨c1,fr1,g0,g1,g2,g5,g6,g7,g8,q⟩:=AEQ c h0 hc h3 r hlt c.beach.places.toNat 0 a cc (by omega) hcc;obtain⟨c',fr,b0,b2,b5,b6,b7,ih⟩:=A35 c h0 hc h3 k (r+1) (M0 c r c.beach.places.toNat 0 a) c1 (by omega) (by omega);refine⟨c',fr,by omega,b2,b5,b6,b7,fun n m hm=>?_⟩;obtain⟨m,rfl⟩:∃k',m=k'+1:=⟨m-1,by omega⟩;have ih:=ih n m (by omega);have q:=q (n+94) (n+17594) (by have:=hc.be.pl;omega);rw[show n+94+17500=n+17594 by omega]at q;have hfin:V9 c (k+1) r a=V9 c k (r+1) (M0 c r c.beach.places.toNat 0 a):=rfl;rw[hfin];generalize V9 c k (r+1) (M0 c r c.beach.places.toNat 0 a)=FIN at *;generalize M0 c r c.beach.places.toNat 0 a=MID at *;rw[AB];simp only[YR,AD]at q ih|-;simp[AH]at q ih;simp[hlt,hw,q,ih,g1,g2,g5,g6,g7,g8,AH]
theorem ABG(n:Nat)(c:AM)(h0:DT c=0)(h3:c.beach.breaks.length<=3):AZ cn kn (AE cn ann kn (n+17800)) 47 [.agg (AD c)]=some (.tup [.agg (AH (acQ (OS c))),i (xI (OS c)),.bool (OS c).isSome]):=by
 rw[AN rfl,AO Tryz.func47 b47 rfl (by simp[AD,AR,A7,AS])];have hc:=F1 h0;obtain⟨c',fr,b0,b2,b5,b6,b7,ql⟩:=A35 c h0 hc h3 c.beach.rows.toNat 0 none 3 (by omega) (by omega);have ql:=ql (n+193) (n+17793) (by have:=hc.be.ro;omega);rw[show n+193+17600=n+17793 by omega]at ql;rw[gF];generalize V9 c c.beach.rows.toNat 0 none=FIN at *;have hc1:1<c':=by omega
 simp only[YR,AD]at ql|-;have z1:xI none=0:=rfl;have z2:acQ none=(0,0):=rfl;simp[AH,z1,z2]at ql;simp[c47,AF,AH,ql,b2,b5,b6,b7,hc1]
end Go.Proofs.Tryz.Op
