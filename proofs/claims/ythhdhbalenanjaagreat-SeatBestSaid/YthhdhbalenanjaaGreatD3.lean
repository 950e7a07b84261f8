/- Contract of the reference: Allowed. No condition but a valid case, sure hours for each place. -/
import Derived.Test.YthhdhbalenanjaaGreatD2
open Go.Proofs.Tryz renaming prog->cp,func89->ct
open Nat renaming le_refl->bj,mul_le_mul->bc,le_trans->cj,pow_le_pow_right->ck,succ_mul->cd,zero_le->cm
open List renaming take_succ_eq_append_getElem->bk,all_eq_true->bq,length_take->bx,length_append->bz,take_of_length_le->bb,mem_map->bf,getElem_mem->bg,not_mem_nil->bh,length_nil->bm,mem_cons->bn,getElem?_eq_getElem->bp,nil_append->cq,mem_cons_of_mem->cw,mem_singleton->cz,append_assoc->cg,map_map->cn
open Bool renaming and_eq_true->bw,false_eq_true->cx
set_option maxRecDepth 100000
set_option linter.unusedSimpArgs false
open Go Go.Pg Go.Proofs Go.Wind
namespace Go.Proofs.Tryz.Op
def L6(ss:List (Int×Int)):List V:=[.list false (ss.map AJ)]
def N8{α:Type}(f:Nat->List α):Nat->Nat->List α
 |0,_=>[]
 |d+1,p=>f p++N8 f d (p+1)
theorem YU{α:Type}{f:Nat->List α}{M:Nat}(h:∀p,(f p).length<=M):∀d p,(N8 f d p).length<=d*M
 |0,p=>by simp[N8]
 |d+1,p=>by have h1:=h p;have h2:=YU h d (p+1);simp only[N8,bz,cd];omega
def EQ(c:AQ)(s:List (List Int))(G:List (Nat×Int))(rec:List (Int×Int)->List (List (Int×Int)))(out:List (Int×Int))(r p:Nat):List (List (Int×Int)) :=
 if (FQ c G (out++[((r:Int),(p:Int))]) out.length&&(BF c s (AR G (out++[((r:Int),(p:Int))]) out.length)).enough)=true then rec (out++[((r:Int),(p:Int))]) else[]
def HJ(c:AQ)(s:List (List Int))(G:List (Nat×Int)):Nat->List (Int×Int)->List (List (Int×Int))
 |0,out=>[out]
 |e+1,out=>N8 (fun r=>N8 (EQ c s G (HJ c s G e) out r) c.beach.places.toNat 0) c.beach.rows.toNat 0
theorem gB{c:AQ}{s:List (List Int)}{G:List (Nat×Int)}{rec:List (Int×Int)->List (List (Int×Int))}{out:List (Int×Int)}{M:Nat}(h:∀o,(rec o).length<=M)(r p:Nat):(EQ c s G rec out r p).length<=M:=by
 unfold EQ;split
 ·exact h _
 ·exact cm _
theorem RV{c:AQ}(hc:BN c)(s:List (List Int))(G:List (Nat×Int)):∀e out,(HJ c s G e out).length<=25 ^ e
 |0,out=>by simp[HJ]
 |e+1,out=>by have hro:=hc.be.ro;have hpl:=hc.be.pl;have h1:=YU (f:=fun r=>N8 (EQ c s G (HJ c s G e) out r) c.beach.places.toNat 0) (M:=5*25 ^ e) (fun r=>cj (YU (fun p=>gB (RV hc s G e) r p) c.beach.places.toNat 0) (bc (by omega) (bj _))) c.beach.rows.toNat 0;refine cj h1 (cj (bc (show c.beach.rows.toNat<=5 by omega) (bj _)) ?_);rw[Nat.pow_succ];omega
def Lis(v:V)(es:List (List (Int×Int))):Prop:=v=.list false (es.map L6)\/v=.list true (es.map L6)\/(es=[]/\v=.nil)
def YH:Option Nat->List (List (Int×Int))->V
 |none,_=>.nil
 |some γ,es=>.vec 0 67 γ es.length
def eT:Option Nat->List (List (Int×Int))->AA
 |none,_=>[]
 |some γ,es=>[(67,γ,.vec 24 (es.map L6))]
theorem AEF(x:List (Int×Int)):(L6 x).length=1:=rfl
theorem V7(l k:Nat)(o:Option (Nat×A1))(f:Nat):(List.map (BL l k o f))∘L6=L6:=by funext ss;show[BL l k o f (.list false (ss.map AJ))]=_;rw[P0 f 9 _ (by simp)];rfl
theorem BEG{k:Nat}{l:List (List (Int×Int))}(h:k+l.length<=100000):B5 cp 24 k (l.map L6)=true:=by rw[BZ (by simp) (by simp)];simp[maxLen,L6];omega
theorem AS4{k:Nat}{x:Int×Int}(h:k<=10000):B5 cp 59 k [[i x.1,i x.2]]=true:=by rw[BZ (by simp) (by simp)];simp[maxLen];omega
theorem AEG{ss:List (Int×Int)}(h:ss.length<=10000):B5 cp 59 0 (ss.map AJ)=true:=by
 cases ss with
 |nil=>rfl
 |cons x l=>
  rw[BZ (by simp) (by simp)]
  simp[maxLen,AJ]at h|-;omega
section
variable (c:AQ)(hc:BN c)(s:List (List Int))(hs:JJ c s)(G:List (Nat×Int))(hG:G.length<=10)(hf:∀g∈G,g.1<c.fams.length/\1<=g.2/\g.2<=4)(out:List (Int×Int))(hl:out.length<G.length)(ho:∀x∈out,0<=x.2/\x.2<=1000)(rec:List (Int×Int)->List (List (Int×Int)))(M K:Nat)(hM:∀o,(rec o).length<=M)
 (hrec:∀x:Int×Int,0<=x.2->x.2<=1000->∃v,Lis v (rec (out++[x]))/\∀j n,AY cp kn (AE cp ann kn (n+K+j)) 89 [.agg (AD c),FO s,.list false (G.map A2),.list false ((out++[x]).map AJ)]=some v)
include hc hs hG hf hl ho hM hrec
theorem AKZ(r:Nat)(hr:(r:Int)<c.beach.rows):∀(d p cc:Nat) (o:Option Nat) (A:List (List (Int×Int))),p+d=c.beach.places.toNat->(o=none->A=[])->A.length+d*M<=100000->∃fr c' o',(o'=none->A++N8 (EQ c s G rec out r) d p=[])/\BD fr 1=some (true,FO s)/\BD fr 2=some (true,.list false (G.map A2))/\BD fr 3=some (true,.list false (out.map AJ))/\BD fr 4=some (true,.ptr 0 4 0 0)/\BD fr 9=some (true,YH o' (A++N8 (EQ c s G rec out r) d p))/\BD fr 10=some (true,i r) /\
  ∀n m,d<m->BA (AE cp ann kn (n+K+1300) 69) Z9 (ann 69 (BU Z9)) m ⟨cc,[(1,true,FO s),(2,true,.list false (G.map A2)),(3,true,.list false (out.map AJ)),(4,true,.ptr 0 4 0 0),(9,true,YH o A),(10,true,i r),(11,true,i p)],⟨[],(4,0,.box (AD c))::eT o A⟩⟩ =
   some (.exit 2,⟨c',fr,⟨[],(4,0,.box (AD c))::eT o' (A++N8 (EQ c s G rec out r) d p)⟩⟩)
 |0,p,cc,o,A,hd,hoA,hAM=>by
  have hpl:=hc.be.pl;have hp':¬(p:Int)<c.beach.places:=by omega
  rw[show N8 (EQ c s G rec out r) 0 p=[] from rfl,List.append_nil];cases o with
  |none=>
   refine⟨?fr,cc,none,hoA,?g1,?g2,?g3,?g4,?g5,?g6,fun n m hm=>?g9⟩
   case g9=>
    obtain⟨m,rfl⟩:=qNz m (by omega)
    rw[AB]
    simp[AD,hp',YH,eT]
    rfl
   all_goals simp[YH]
  |some γ=>
   refine⟨?fr2,cc,some γ,(fun h=>by cases h),?g12,?sZ,?g32,?g42,?g52,?g62,fun n m hm=>?gF⟩
   case gF=>
    obtain⟨m,rfl⟩:=qNz m (by omega)
    rw[AB]
    simp[AD,hp',YH,eT]
    rfl
   all_goals simp[YH]
 |d+1,p,cc,o,A,hd,hoA,hAM=>by
  have hpl:=hc.be.pl;have hro:=hc.be.ro;have hp':(p:Int)<c.beach.places:=by omega
  have hw:=BJ (k:=p) (by omega);have ha0:B5 cp 59 0 []=true:=AEG (ss:=[]) (by simp);have ha1:=AEG (ss:=out) (by omega);have ha2:=AS4 (k:=out.length) (x:=((r:Int),(p:Int))) (by omega);have hla:(out++[((r:Int),(p:Int))]).length=out.length+1:=by simp
  have hsa:AR G (out++[((r:Int),(p:Int))]) out.length=⟨G[out.length].1,G[out.length].2,(r:Int),(p:Int)⟩:=by rw[HH hl (by rw[hla];omega)];simp
  have hfk:=hf _ (bg hl);have hoi:(out.length:Int)<(out.length:Int)+1:=by omega
  have qS:=fun n=>APK n c (by omega) (by omega) G (out++[((r:Int),(p:Int))]) out.length (by omega) (by omega) (by omega) (fun g hg=>by have:=hf g hg; omega) (fun q hq=>by
   have e:(AR G (out++[((r:Int),(p:Int))]) q).place=(out[q]).2:=by simp[AR,List.getD_eq_getElem?_getD,List.getElem?_append_left hq,bp hq]
   rw[e];exact ho _ (bg hq))
  have ecell:EQ c s G rec out r p=if (FQ c G (out++[((r:Int),(p:Int))]) out.length&&(BF c s (AR G (out++[((r:Int),(p:Int))]) out.length)).enough)=true then rec (out++[((r:Int),(p:Int))]) else[]:=rfl
  have hfl:N8 (EQ c s G rec out r) (d+1) p=EQ c s G rec out r p++N8 (EQ c s G rec out r) d (p+1):=rfl;rw[cd]at hAM;rw[hfl];cases hS:FQ c G (out++[((r:Int),(p:Int))]) out.length with
  |false=>
   rw[hS]at qS ecell
   rw[ecell]
   simp only[Bool.false_and,cx,if_false,cq]
   obtain⟨fr,c',o',g0,g1,g2,g3,g4,g9,g10,ih⟩:=AKZ r hr d (p+1) (cc+1+1) o A (by omega) hoA (by omega)
   refine⟨fr,c',o',g0,g1,g2,g3,g4,g9,g10,fun n m hm=>?_⟩
   obtain⟨m,rfl⟩:=qNz m (by omega)
   have ih:=ih n m (by omega)
   clear g0 g9 hrec
   generalize A++N8 (EQ c s G rec out r) d (p+1)=F at *
   rw[AB]
   simp only[AD]at qS ih|-
   simp[AJ]at qS ha1 ha2
   cases o<;>(simp[YH,eT]at ih;simp[hp',hw,qS,ha1,ha2,AJ,A2,AS,A6,AU,jB,CI,B7,YH,eT,V7,ih])
  |true=>
   rw[hS]at qS ecell
   rw[Bool.true_and]at ecell
   have hx:C4 c (AR G (out++[((r:Int),(p:Int))]) out.length)=true:=by simp only[FQ,bw]at hS;exact hS.1
   have qE:=fun n=>wW n c hc s hs _ hx (by rw[hsa];exact hfk.1) (by rw[hsa];exact⟨Int.le_trans (by decide) hfk.2.1,hfk.2.2⟩)
   have eg:A2 (sF (AR G (out++[((r:Int),(p:Int))]) out.length))=[i G[out.length].1,i G[out.length].2]:=by rw[hsa];rfl
   have es:AJ (SO (AR G (out++[((r:Int),(p:Int))]) out.length))=[i r,i p]:=by rw[hsa];rfl
   rw[eg,es]at qE
   have hll:out.length<(out++[((r:Int),(p:Int))]).length:=by rw[hla];omega
   cases hE:(BF c s (AR G (out++[((r:Int),(p:Int))]) out.length)).enough with
   |false=>
    rw[hE]at qE ecell
    rw[ecell]
    simp only[cx,if_false,cq]
    obtain⟨fr,c',o',g0,g1,g2,g3,g4,g9,g10,ih⟩:=AKZ r hr d (p+1) (cc+1+1) o A (by omega) hoA (by omega)
    refine⟨fr,c',o',g0,g1,g2,g3,g4,g9,g10,fun n m hm=>?_⟩
    obtain⟨m,rfl⟩:=qNz m (by omega)
    have ih:=ih n m (by omega)
    clear g0 g9 hrec
    generalize A++N8 (EQ c s G rec out r) d (p+1)=F at *
    rw[AB]
    simp only[AD]at qS qE ih|-
    simp[AJ]at qS qE ha1 ha2
    cases o<;>(simp[YH,eT]at ih;simp[hp',hw,qS,ha1,ha2,AJ,A2,AS,A6,AU,CI,B7,YH,eT,V7,hoi,qE,hl,ih])
   |true=>
    rw[hE]at qE ecell
    simp only[if_true]at ecell
    rw[ecell]
    obtain⟨v,hv,qA⟩:=hrec ((r:Int),(p:Int)) (by simp only;omega) (by simp only;omega)
    have hR:=hM (out++[((r:Int),(p:Int))])
    rw[<-cg]
    obtain⟨fr,c',o',g0,g1,g2,g3,g4,g9,g10,ih⟩:=AKZ r hr d (p+1) (cc+1+1+1) (some (cc+1+1)) (A++rec (out++[((r:Int),(p:Int))])) (by omega) (fun h=>by cases h) (by rw[bz];omega)
    refine⟨fr,c',o',g0,g1,g2,g3,g4,g9,g10,fun n m hm=>?_⟩
    obtain⟨m,rfl⟩:=qNz m (by omega)
    have ih:=ih n m (by omega)
    clear g0 g9 hrec ecell
    have happ:=BEG (k:=A.length) (l:=rec (out++[((r:Int),(p:Int))])) (by omega)
    generalize A++rec (out++[((r:Int),(p:Int))])++N8 (EQ c s G rec out r) d (p+1)=F at *
    generalize rec (out++[((r:Int),(p:Int))])=R at *
    rw[AB]
    simp only[AD]at qS qE qA ih|-
    simp[AJ]at qS qE qA ha1 ha2
    rcases hv with rfl|rfl|⟨rfl,rfl⟩
    all_goals cases o with
     |none=>
      obtain rfl:=hoA rfl
      simp[YH,eT]at ih happ
      simp[hp',hw,qS,ha1,ha2,AJ,A2,AS,A6,AU,CI,B7,YH,eT,hoi,qE,qA,hl,happ,ih]
     |some γ=>
      simp[YH,eT]at ih happ
      simp[hp',hw,qS,ha1,ha2,AJ,A2,AS,A6,AU,CI,B7,YH,eT,V7,AEF,hoi,qE,qA,hl,happ,ih]
theorem A3V:∀(d r cc:Nat) (o:Option Nat) (A:List (List (Int×Int))),r+d=c.beach.rows.toNat->(o=none->A=[])->A.length+d*(5*M)<=100000->∃fr c' o',(o'=none->A++N8 (fun r=>N8 (EQ c s G rec out r) c.beach.places.toNat 0) d r=[])/\BD fr 9=some (true,YH o' (A++N8 (fun r=>N8 (EQ c s G rec out r) c.beach.places.toNat 0) d r)) /\
  ∀n m,d<m->BA (AE cp ann kn (n+K+1400) 69) aA (ann 69 (BU aA)) m ⟨cc,[(1,true,FO s),(2,true,.list false (G.map A2)),(3,true,.list false (out.map AJ)),(4,true,.ptr 0 4 0 0),(9,true,YH o A),(10,true,i r)],⟨[],(4,0,.box (AD c))::eT o A⟩⟩ =
   some (.exit 0,⟨c',fr,⟨[],(4,0,.box (AD c))::eT o' (A++N8 (fun r=>N8 (EQ c s G rec out r) c.beach.places.toNat 0) d r)⟩⟩)
 |0,r,cc,o,A,hd,hoA,hAM=>by
  have hro:=hc.be.ro;have hr':¬(r:Int)<c.beach.rows:=by omega
  rw[show N8 (fun r=>N8 (EQ c s G rec out r) c.beach.places.toNat 0) 0 r=[] from rfl,List.append_nil];cases o with
  |none=>
   refine⟨?fr,cc,none,hoA,?g5,fun n m hm=>?g9⟩
   case g9=>
    obtain⟨m,rfl⟩:=qNz m (by omega)
    rw[AB]
    simp[AD,hr',YH,eT]
    rfl
   all_goals simp[YH]
  |some γ=>
   refine⟨?fr2,cc,some γ,(fun h=>by cases h),?g52,fun n m hm=>?gF⟩
   case gF=>
    obtain⟨m,rfl⟩:=qNz m (by omega)
    rw[AB]
    simp[AD,hr',YH,eT]
    rfl
   all_goals simp[YH]
 |d+1,r,cc,o,A,hd,hoA,hAM=>by
  have hpl:=hc.be.pl;have hro:=hc.be.ro;have hr':(r:Int)<c.beach.rows:=by omega
  have hw:=BJ (k:=r) (by omega);have h5:c.beach.places.toNat*M<=5*M:=bc (by omega) (bj _);rw[cd]at hAM;have hlen:(N8 (EQ c s G rec out r) c.beach.places.toNat 0).length<=c.beach.places.toNat*M:=YU (fun p=>gB hM r p) _ _;obtain⟨f1,c1,o1,h0,h1,h2,h3,h4,h9,h10,q⟩:=AKZ c hc s hs G hG hf out hl ho rec M K hM hrec r hr' c.beach.places.toNat 0 cc o A (by omega) hoA (by omega);have q:=fun n m=>q (n+94) (m+101) (by omega);simp only[show ∀n,n+94+K+1300=n+K+1394 from fun n=>by omega]at q;have hfl:N8 (fun r=>N8 (EQ c s G rec out r) c.beach.places.toNat 0) (d+1) r=N8 (EQ c s G rec out r) c.beach.places.toNat 0++N8 (fun r=>N8 (EQ c s G rec out r) c.beach.places.toNat 0) d (r+1):=rfl;rw[hfl,<- cg];obtain⟨fr,c',o',g0,g9,ih⟩:=A3V d (r+1) c1 o1 (A++N8 (EQ c s G rec out r) c.beach.places.toNat 0) (by omega) h0 (by rw[bz]; omega);refine⟨fr,c',o',g0,g9,fun n m hm=>?_⟩;obtain⟨m,rfl⟩:=qNz m (by omega);have ih:=ih n m (by omega);clear g0 g9 hrec h0 hlen;generalize A++N8 (EQ c s G rec out r) c.beach.places.toNat 0++N8 (fun r=>N8 (EQ c s G rec out r) c.beach.places.toNat 0) d (r+1)=F at *;generalize A++N8 (EQ c s G rec out r) c.beach.places.toNat 0=B at *;rw[AB];simp only[AD]at q ih |-;cases o <;> cases o1 <;> (
   simp[YH,eT]at q ih h9
   simp[hr',hw,YH,eT,q,h1,h2,h3,h4,h9,h10,ih])
end
theorem nB(c:AQ)(hc:BN c)(s:List (List Int))(hs:JJ c s)(G:List (Nat×Int))(hG:G.length<=3)(hf:∀g∈G,g.1<c.fams.length/\1<=g.2/\g.2<=4):∀(e:Nat) (out:List (Int×Int)),out.length+e=G.length->(∀x∈out,0<=x.2/\x.2<=1000)->∃v,Lis v (HJ c s G e out)/\∀n,AY cp kn (AE cp ann kn (n+1500*(e+1))) 89 [.agg (AD c),FO s,.list false (G.map A2),.list false (out.map AJ)]=some v
 |0,out,hl,ho=>by
  have hl':(out.length:Int)=(G.length:Int):=by omega
  refine⟨.list false ([out].map L6),.inl rfl,fun n=>?_⟩;rw[AN rfl,AO ct b89 rfl (by simp[AD,AS,A6,AU,A2])];simp only[AD];simp[c89,AF,hl',L6]
 |e+1,out,hl,ho=>by
  have hlt:out.length<G.length:=by omega
  have hl':¬(out.length:Int)=(G.length:Int):=by omega
  have hM:∀o,(HJ c s G e o).length<=25 ^ e:=RV hc s G e;have h25:25 ^ e<=25 ^ 2:=ck (by decide) (by omega);have hro:=hc.be.ro;have hrec:∀x:Int×Int,0<=x.2->x.2<=1000->∃v,Lis v (HJ c s G e (out++[x]))/\∀j n,AY cp kn (AE cp ann kn (n+1500*(e+1)+j)) 89 [.agg (AD c),FO s,.list false (G.map A2),.list false ((out++[x]).map AJ)]=some v:=fun x h1 h2=>by
   obtain⟨v,hv,q⟩:=nB c hc s hs G hG hf e (out++[x]) (by simp; omega) (fun y hy=>by
    rcases List.mem_append.1 hy with h|h
    ·exact ho y h
    ·rw[cz.1 h]; exact⟨h1,h2⟩)
   refine⟨v,hv,fun j n=>?_⟩;rw[show n+1500*(e+1)+j=n+j+1500*(e+1) by omega];exact q (n+j)
  obtain⟨fr,c',o',g0,g9,q⟩:=A3V c hc s hs G (by omega) hf out hlt ho (HJ c s G e) (25 ^ e) (1500*(e+1)) hM hrec c.beach.rows.toNat 0 1 none [] (by omega) (fun _=>rfl) (by
   have:c.beach.rows.toNat*(5*25 ^ e)<=5*(5*25 ^ 2):=bc (by omega) (bc (bj _) h25);simp only[bm];omega)
  have q:=fun n m=>q (n+93) (m+101) (by omega);simp only[show ∀n,n+93+1500*(e+1)+1400=n+1500*(e+1)+1493 from fun n=>by omega]at q;rw[cq]at g9 q g0;change BD fr 9=some (true,YH o' (HJ c s G (e+1) out))at g9;change o'=none->HJ c s G (e+1) out=[]at g0;change ∀n m,_=some (Exit.exit 0,(⟨c',fr,⟨[],(4,0,.box (AD c))::eT o' (HJ c s G (e+1) out)⟩⟩:XS))at q;clear hrec hM;generalize HJ c s G (e+1) out=R at *;have eK:∀n,n+1500*(e+1+1)=n+1500*(e+1)+1500:=fun n=>by omega
  simp only[eK];generalize 1500*(e+1)=K at *;cases o' with
  |none=>
   obtain rfl:=g0 rfl
   refine⟨.nil,.inr (.inr ⟨rfl,rfl⟩),fun n=>?_⟩
   rw[AN rfl,AO ct b89 rfl (by simp[AD,AS,A6,AU,A2])]
   simp only[AD]at q|-
   simp[YH,eT]at q g9
   simp[c89,AF,hl',q,g9]
  |some γ=>
   refine⟨.list false (R.map L6),.inl rfl,fun n=>?_⟩
   rw[AN rfl,AO ct b89 rfl (by simp[AD,AS,A6,AU,A2])]
   simp only[AD]at q|-
   simp[YH,eT]at q g9
   simp[c89,AF,hl',q,g9]
   rw[bb (by simp)]
   refine⟨fun e he v hv=>?_,rfl⟩
   obtain⟨l,_,rfl⟩:=bf.1 he
   simp only[L6,bn,bh,or_false]at hv
   subst hv
   simp
theorem YV{α:Type}{f:Nat->List α}{x:α}:∀{d p:Nat},x∈N8 f d p↔∃q,p<=q/\q<p+d/\x∈f q
 |0,p=>by
  constructor
  ·intro h;cases h
  ·rintro ⟨q,h1,h2,_⟩;omega
 |d+1,p=>by
  show x∈f p++N8 f d (p+1)↔_;rw[List.mem_append,YV];constructor
  ·rintro (h|⟨q,h1,h2,h3⟩)
   ·exact⟨p,by omega,by omega,h⟩
   ·exact⟨q,by omega,by omega,h3⟩
  ·rintro ⟨q,h1,h2,h3⟩;by_cases e:q=p
   ·exact .inl (e▸h3)
   ·exact .inr ⟨q,by omega,by omega,h3⟩
def jP(c:AQ)(s:List (List Int))(G:List (Nat×Int))(ss:List (Int×Int))(k:Nat):Bool:=FQ c G ss k&&(BF c s (AR G ss k)).enough
theorem gC{c:AQ}{s:List (List Int)}{G:List (Nat×Int)}{ss:List (Int×Int)}{k j:Nat}(h:k<j):jP c s G (ss.take j) k=jP c s G ss k:=by unfold jP;rw[P7 h];congr 1;rw[<-RQ (ss:=ss.take j),List.take_take,show min (k+1) j=k+1 by omega,RQ]
theorem M6{c:AQ}(hc:BN c){s:List (List Int)}{G:List (Nat×Int)}(hz:∀g∈G,1<=g.2){ss:List (Int×Int)}:∀{e:Nat} {out:List (Int×Int)},out.length+e=G.length->(ss∈HJ c s G e out↔ss.length=G.length/\ss.take out.length=out/\∀k,out.length<=k->k<G.length->jP c s G ss k=true)
 |0,out,hl=>by
  show ss∈[out]↔_;rw[cz];constructor
  ·rintro rfl;exact⟨by omega,bb (bj _),fun k h1 h2=>by omega⟩
  ·rintro ⟨h1,h2,_⟩;rw[<-h2,bb (by omega)]
 |e+1,out,hl=>by
  have hro:=hc.be.ro;have hpl:=hc.be.pl;show ss∈N8 _ _ _↔_;rw[YV];constructor
  ·rintro ⟨r,_,hr,h⟩;obtain⟨p,_,hp,h⟩:=YV.1 h;unfold EQ at h;split at h
   ·rename_i hk;obtain⟨h1,h2,h3⟩:=(M6 hc hz (out:=out++[((r:Int),(p:Int))]) (by simp;omega)).1 h;rw[bz,List.length_singleton]at h2 h3;have ht:ss.take out.length=out:=by have:=congrArg (List.take out.length) h2;rw[List.take_take,show min out.length (out.length+1)=out.length by omega]at this;rw[this];simp
    refine⟨h1,ht,fun k hk1 hk2=>?_⟩;by_cases e1:k=out.length
    ·subst e1;rw[<-gC (j:=out.length+1) (by omega),h2];exact hk
    ·exact h3 k (by omega) hk2
   ·cases h
  ·rintro ⟨h1,h2,h3⟩;have hlt:out.length<G.length:=by omega
   have hls:out.length<ss.length:=by omega
   have hk:=h3 out.length (bj _) hlt;have hfit:C4 c (AR G ss out.length)=true:=by simp only[jP,FQ,bw]at hk;exact hk.1.1
   have hsp:=HH hlt hls;obtain⟨r,p,e1,e2,g1,g2⟩:=S7 hfit;rw[hsp]at e1 e2 g2;simp only at e1 e2 g2;have hg:=hz _ (bg hlt);have hx:out++[((r:Int),(p:Int))]=ss.take (out.length+1):=by rw[bk hls,h2];congr 1;rw[<-e1,<-e2]
   refine⟨r,by omega,by omega,YV.2 ⟨p,by omega,by omega,?_⟩⟩;unfold EQ;rw[hx];have hk':jP c s G (ss.take (out.length+1)) out.length=true:=by rw[gC (by omega)];exact hk
   unfold jP at hk';have hlt2:(ss.take (out.length+1)).length=out.length+1:=by rw[bx];omega
   rw[if_pos hk'];refine(M6 hc hz (by rw[bx];omega)).2 ⟨h1,?_,fun k hk1 hk2=>?_⟩
   ·rw[bx,show min (out.length+1) ss.length=out.length+1 by omega]
   ·rw[bx]at hk1;exact h3 k (by omega) hk2
def OJ(c:AQ):List (List (Int×Int)):=HJ c (CZ c) (AK c []) (AK c []).length []
theorem ZM{c:AQ}(hc:BN c)(hp:CD (AK c [])<=(CP c:Int)){ss:List (Int×Int)}:ss∈OJ c↔EX c (CZ c) ss=true:=by
 rw[<-K5 hc];unfold OJ;rw[M6 (s:=CZ c) (G:=AK c []) (ss:=ss) (e:=(AK c []).length) (out:=[]) hc (fun g hg=>(FB hc [] _ (bj _) g hg).2.1) (by rw[bm,Nat.zero_add])];unfold P8 FS;simp only[bw,decide_eq_true_eq,bq,List.mem_range,jP,bm,List.take_zero,true_and,cm,forall_const];constructor
 ·rintro ⟨h1,h2⟩;exact⟨⟨h1,hp,fun k hk=>(h2 k (by omega)).1⟩,fun k hk=>(h2 k (by omega)).2⟩
 ·rintro ⟨⟨h1,_,h3⟩,h4⟩;exact⟨h1,fun k hk=>⟨h3 k (by omega),h4 k (by omega)⟩⟩
theorem nC{c:AQ}(hc:BN c){ss:List (Int×Int)}(h:ss∈OJ c):ss.length=(AK c []).length/\∀k,k<ss.length->C4 c (AR (AK c []) ss k)=true:=by obtain⟨h1,_,h3⟩:=(M6 (s:=CZ c) (G:=AK c []) (ss:=ss) (e:=(AK c []).length) (out:=[]) hc (fun g hg=>(FB hc [] _ (bj _) g hg).2.1) (by rw[bm,Nat.zero_add])).1 h;refine⟨h1,fun k hk=>?_⟩;have:=h3 k (cm _) (by omega);simp only[jP,FQ,bw]at this;exact this.1.1
def GH(acc x:Int×Int):Int×Int:=if acc.1<x.1\/(x.1=acc.1/\x.2<acc.2) then x else acc
def OW(l:List (Int×Int)):Int×Int:=l.foldl GH (-1,0)
def geQ(a b:Int×Int):Prop:=b.1<a.1\/b.1=a.1/\a.2<=b.2
theorem APO:∀(l:List (Int×Int)) (acc:Int×Int),(l.foldl GH acc=acc\/l.foldl GH acc∈l)/\geQ (l.foldl GH acc) acc/\∀x∈l,geQ (l.foldl GH acc) x
 |[],acc=>⟨.inl rfl,.inr ⟨rfl,Int.le_refl _⟩,fun x hx=>by cases hx⟩
 |y::l,acc=>by
  obtain⟨h1,h2,h3⟩:=APO l (GH acc y);rw[List.foldl_cons];have hs:(GH acc y=y/\geQ y acc)\/(GH acc y=acc/\geQ acc y):=by
   unfold GH geQ;split
   ·left;refine⟨rfl,?_⟩;omega
   ·right;refine⟨rfl,?_⟩;omega
  have htr:∀{a b d:Int×Int},geQ a b->geQ b d->geQ a d:=fun {a b d} h1 h2=>by unfold geQ at *;omega
  have hrf:∀a:Int×Int,geQ a a:=fun a=>.inr ⟨rfl,Int.le_refl _⟩;refine⟨?_,?_,fun x hx=>?_⟩
  ·rcases h1 with h|h
   ·rcases hs with⟨e,_⟩|⟨e,_⟩
    ·right;rw[h,e];simp
    ·left;rw[h,e]
   ·right;exact cw _ h
  ·rcases hs with⟨e,g⟩|⟨e,g⟩
   ·exact htr h2 (by rw[e];exact g)
   ·exact htr h2 (by rw[e];exact hrf _)
  ·rcases bn.1 hx with rfl|hx
   ·rcases hs with⟨e,g⟩|⟨e,g⟩
    ·exact htr h2 (by rw[e];exact hrf _)
    ·exact htr h2 (by rw[e];exact g)
   ·exact h3 x hx
def S8(c:AQ):Int×Int:=OW ((OJ c).map fun ss=>(JK c ss,JZ c ss))
def gD(c:AQ):Int×Int×Bool:=if (CP c:Int)<CD (AK c []) then(0,0,false) else if (S8 c).1<0 then(0,0,false) else((S8 c).1,(S8 c).2,true)
theorem xC{c:AQ}(hc:BN c){ss:List (Int×Int)}(h:ss∈OJ c):0<=JK c ss/\JK c ss<=60/\0<=JZ c ss/\JZ c ss<=12:=by
 obtain⟨h1,h2⟩:=nC hc h;have hgm:∀g∈AK c [],0<=g.2/\g.2<=4:=fun g hg=>by have:=FB hc [] _ (bj _) g hg;omega
 have a:=xA (KB hc) hgm (by omega) h2 (n:=ss.length) (bj _);have b:=xB (c:=c) (ss:=ss) hgm (by omega) (n:=ss.length) (bj _);have hfl:=hc.fl;have hgl:=CL c;unfold JK JZ;omega
theorem AEH{c:AQ}(h0:EC c=0):gD c=match H9 c with
  |some q=>(q.2.sun,q.2.carried,true)
  |none=>(0,0,false):=by
 have hc:=GY h0
 unfold gD
 obtain⟨f1,f2,f3⟩:=APO ((OJ c).map fun ss=>(JK c ss,JZ c ss)) (-1,0)
 change S8 c=(-1,0)\/S8 c∈_ at f1
 change ∀x∈_,geQ (S8 c) x at f3
 cases hO:H9 c with
 |none=>
  simp only
  by_cases hp:(CP c:Int)<CD (AK c [])
  ·rw[if_pos hp]
  ·rw[if_neg hp];have hn:OJ c=[]:=List.eq_nil_iff_forall_not_mem.2 fun ss hm=>by have:=(ZM hc (by omega)).1 hm;rw[AKX h0 hO]at this;cases this
   have e:S8 c=(-1,0):=by unfold S8;rw[hn];rfl
   rw[e];rfl
 |some q=>
  obtain⟨b,t⟩:=q
  obtain⟨g1,g2,g3⟩:=V2 hO
  have hok:=YS.1 g1
  have ha:=mP hok
  have hss:(EX c (A0 c) (b.map SO))=true:=ha
  rw[KC hc]at ha
  obtain⟨s1,s2⟩:=jK hok
  have hpe:CD (AK c [])<=(CP c:Int):=by have:=K5 hc (s:=CZ c) (ss:=b.map SO);rw[ha]at this;simp only[P8,FS,bw,decide_eq_true_eq]at this;exact this.1.2.1
  rw[if_neg (by omega)]
  have hm:b.map SO∈OJ c:=(ZM hc hpe).2 ha
  obtain⟨e1,e2⟩:=mY hc s1
  rw[s2,<-g2]at e1 e2
  have h3:=f3 _ (bf.2 ⟨_,hm,rfl⟩)
  simp only[geQ]at h3
  rw[<-e1,<-e2]at h3
  have hb:=xC hc hm
  rw[<-e1,<-e2]at hb
  rcases f1 with h|h
  ·rw[h]at h3;simp only at h3;omega
  ·obtain⟨ss,hs1,hs2⟩:=bf.1 h;have hb2:=AKY h0 hO ((ZM hc hpe).1 hs1);have hb3:=xC hc hs1;rw[<-hs2]at h3|-;simp only at h3 hb2|-;rw[if_neg (by omega)];simp only[Prod.mk.injEq,and_true];omega
theorem KD{ss:List (Int×Int)}(f:Nat):∀e∈ss.map AJ,∀v∈e,AG (f+1) v=true:=fun e he v hv=>by obtain⟨l,_,rfl⟩:=bf.1 he;simp only[AJ,bn,bh,or_false]at hv;rcases hv with rfl|rfl<;>rfl
theorem L7{G:List (Nat×Int)}(f:Nat):∀e∈G.map A2,∀v∈e,AG (f+1) v=true:=fun e he v hv=>by obtain⟨l,_,rfl⟩:=bf.1 he;simp only[A2,bn,bh,or_false]at hv;rcases hv with rfl|rfl<;>rfl
theorem A3W(c:AQ)(hc:BN c)(L:List (List (Int×Int)))(hL:∀ss∈L,ss∈OJ c)(hLl:L.length<=16000)(b:Bool):∀(d k:Nat),k+d=L.length->∃fr,BD fr 9=some (true,i (OW (L.map fun ss=>(JK c ss,JZ c ss))).1)/\BD fr 10=some (true,i (OW (L.map fun ss=>(JK c ss,JZ c ss))).2)/\∀n m,d<m->BA (AE cp ann kn (n+700) 64) RW (ann 64 (BU RW)) m ⟨1,[(1,true,FO (CZ c)),(2,true,.ptr 0 2 0 0),(7,true,sl ((AK c []).map A2)),(8,true,.list b (L.map L6)),(9,true,i (OW ((L.take k).map fun ss=>(JK c ss,JZ c ss))).1),(10,true,i (OW ((L.take k).map fun ss=>(JK c ss,JZ c ss))).2),(11,true,i k)],⟨[],[(2,0,.box (AD c))]⟩⟩ =
  some (.exit 0,⟨1,fr,⟨[],[(2,0,.box (AD c))]⟩⟩)
 |0,k,hd=>by
  obtain rfl:k=L.length:=by omega
  rw[List.take_length];generalize OW (L.map fun ss=>(JK c ss,JZ c ss))=A;generalize CZ c=SR;generalize sl ((AK c []).map A2)=GG;refine⟨?fr,?g1,?g2,fun n m hm=>?g9⟩;case g9=>
   obtain⟨m,rfl⟩:=qNz m (by omega)
   rw[AB]
   simp[AD]
   rfl
  all_goals simp
 |d+1,k,hd=>by
  have hk:k<L.length:=by omega
  have hw:=BJ (k:=k) (by omega);have hm:=hL _ (bg hk);obtain⟨h1,h2⟩:=nC hc hm;have hfl:=hc.fl;have hgl:=CL c;have hgm:∀g∈AK c [],g.1<c.fams.length/\0<=g.2/\g.2<=4:=fun g hg=>by have:=FB hc [] _ (bj _) g hg;omega
  have qS:∀n,AY cp kn (AE cp ann kn (n+500)) 37 [FO (CZ c),.list false ((AK c []).map A2),.list false (L[k].map AJ)]=some (i (JK c L[k])):=fun n=>AEE c hc (CZ c) (KB hc) (AK c []) L[k] hgm (by omega) (by omega) h2 n;have qC:∀n,AY cp kn (AE cp ann kn (n+500)) 38 [.agg (AD c),.list false ((AK c []).map A2),.list false (L[k].map AJ)]=some (i (JZ c L[k])):=fun n=>ZL c hc (AK c []) L[k] hgm (by omega) (by omega) h2 n;have e8:(L[k].map AJ).all (fun e=>e.all (AG 8))=true:=bq.2 fun e he=>bq.2 fun v hv=>KD 7 e he v hv;have g8:((AK c []).map A2).all (fun e=>e.all (AG 8))=true:=bq.2 fun e he=>bq.2 fun v hv=>L7 7 e he v hv;have eq1:L6 L[k]=[.list false (L[k].map AJ)]:=rfl;obtain⟨fr,f1,f2,ih⟩:=A3W c hc L hL hLl b d (k+1) (by omega);refine⟨fr,f1,f2,fun n m hm=>?_⟩;obtain⟨m,rfl⟩:=qNz m (by omega);have ih:=ih n m (by omega);have hst:OW ((L.take (k+1)).map fun ss=>(JK c ss,JZ c ss))=GH (OW ((L.take k).map fun ss=>(JK c ss,JZ c ss))) (JK c L[k],JZ c L[k]):=by rw[bk hk,List.map_append];unfold OW;rw[List.foldl_append];rfl
  rw[hst]at ih;clear f1 f2 hst hL;generalize OW ((L.take k).map fun ss=>(JK c ss,JZ c ss))=A at *;generalize JK c L[k]=S at *;generalize JZ c L[k]=R at *;have hgo:(L.map L6)[k]? = some [.list false (L[k].map AJ)]:=by rw[List.getElem?_map,bp hk];rfl
  generalize L[k].map AJ=LP at *;generalize CZ c=SR at *;generalize (AK c []).map A2=GG at *;rw[AB];simp only[AD,GH]at ih qC qS|-;by_cases hb:A.1<S
  ·rw[if_pos (.inl hb)]at ih;simp at ih hgo;simp[hk,hw,hb,eq1,qS,qC,e8,g8,AU,AS,A6,ih];done
  ·by_cases hb1:S=A.1
   ·by_cases hb2:R<A.2
    ·rw[if_pos (.inr ⟨hb1,hb2⟩)]at ih;simp at ih hgo;simp[hk,hw,hb1,hb2,eq1,qS,qC,e8,g8,AU,AS,A6];try rw[hb1]at ih
     try simpa using ih
    ·rw[if_neg (by omega)]at ih;simp at ih hgo;simp[hk,hw,hb1,hb2,eq1,qS,qC,e8,g8,AU,AS,A6,ih]
   ·rw[if_neg (by omega)]at ih;simp at ih hgo;simp[hk,hw,hb,hb1,eq1,qS,qC,e8,g8,AU,AS,A6,ih]
set_option maxHeartbeats 4000000 in
theorem AEI(n:Nat)(c:AQ)(hc:BN c):AY cp kn (AE cp ann kn (n+17000)) 39 [.agg (AD c),FO (CZ c)]=some (.tup [i (gD c).1,i (gD c).2.1,.bool (gD c).2.2]):=by
 rw[AN rfl,AO Tryz.func39 b39 rfl (by simp[AD,AS,A6,AU])];have hro:=hc.be.ro;have hch:=hc.ch;have hfl:=hc.fl;have hgl:=CL c;have hgm:∀g∈AK c [],g.1<c.fams.length/\1<=g.2/\g.2<=4:=fun g hg=>FB hc [] _ (bj _) g hg;have qG:=fun n=>mW n c (by omega);have qP:=fun n=>wV n (AK c []) (by omega) (fun g hg=>by have:=hgm g hg;omega);have qC:=fun n=>mR n c (by omega) (fun l hl=>by have:=hc.cr l hl;have:=hc.be.pl;omega);have g8:=eq_true (L7 (G:=AK c []) 7);have g8b:((AK c []).map A2).all (fun e=>e.all (AG 8))=true:=bq.2 fun e he=>bq.2 fun v hv=>L7 7 e he v hv;obtain⟨v,hv,qA⟩:=nB c hc (CZ c) (KB hc) (AK c []) (by omega) hgm (AK c []).length [] (by simp) (by simp);have qA:∀n,AY cp kn (AE cp ann kn (n+6000)) 89 [.agg (AD c),FO (CZ c),.list false ((AK c []).map A2),.list false []]=some v:=fun n=>by have h:=qA (n+(6000-1500*((AK c []).length+1)));rw[show n+(6000-1500*((AK c []).length+1))+1500*((AK c []).length+1)=n+6000 by omega]at h;exact h
 have hLl:(OJ c).length<=15625:=cj (RV hc _ _ _ _) (ck (n:=25) (by decide) (show(AK c []).length<=3 by omega));change Lis v (OJ c)at hv;unfold gD;by_cases hp:(CP c:Int)<CD (AK c [])
 ·rw[if_pos hp];generalize (AK c []).map A2=GG at *;generalize CD (AK c [])=PG at *;generalize CP c=CN at *;simp only[AD]at qG qP qC|-;simp[c39,AF,qG,qP,qC,hp,g8b,AU,AS,A6]
 rw[if_neg hp];have hq:∀b,∃fr,BD fr 9=some (true,i (S8 c).1)/\BD fr 10=some (true,i (S8 c).2)/\∀n m,BA (AE cp ann kn (n+700) 64) RW (ann 64 (BU RW)) (m+15700) ⟨1,[(1,true,FO (CZ c)),(2,true,.ptr 0 2 0 0),(7,true,sl ((AK c []).map A2)),(8,true,.list b ((OJ c).map L6)),(9,true,i (-1)),(10,true,i 0),(11,true,i 0)],⟨[],[(2,0,.box (AD c))]⟩⟩ =
   some (.exit 0,⟨1,fr,⟨[],[(2,0,.box (AD c))]⟩⟩):=fun b=>by
  obtain⟨fr,f1,f2,q⟩:=A3W c hc (OJ c) (fun ss h=>h) (by omega) b (OJ c).length 0 (by omega)
  exact⟨fr,f1,f2,fun n m=>q n (m+15700) (by omega)⟩
 have hcl:∀f,∀e∈(OJ c).map L6,∀w∈e,AG (f+3) w=true:=fun f e he w hw=>by obtain⟨l,_,rfl⟩:=bf.1 he;simp only[L6,bn,bh,or_false]at hw;subst hw;simp
 have hc7:=eq_true (hcl 4);have hc8:=eq_true (hcl 5);have hc9:=eq_true (hcl 6);have hbg:S8 c=OW ((OJ c).map fun ss=>(JK c ss,JZ c ss)):=rfl;rcases hv with rfl|rfl|⟨hnil,rfl⟩
 ·obtain⟨fr,f1,f2,q⟩:=hq false;clear hbg hq;generalize S8 c=B at *;generalize (OJ c).map L6=LQ at *;generalize (AK c []).map A2=GG at *;generalize CD (AK c [])=PG at *;generalize CP c=CN at *;generalize CZ c=SR at *;simp only[AD]at qG qP qC qA q|-;simp at q;by_cases hn:B.1<0
  ·rw[if_pos hn];simp[c39,AF,qG,qP,qC,qA,hp,hn,q,f1,f2,g8b,AU,AS,A6]
  ·rw[if_neg hn];simp[c39,AF,qG,qP,qC,qA,hp,hn,q,f1,f2,g8b,AU,AS,A6]
 ·obtain⟨fr,f1,f2,q⟩:=hq true;clear hbg hq;generalize S8 c=B at *;generalize (OJ c).map L6=LQ at *;generalize (AK c []).map A2=GG at *;generalize CD (AK c [])=PG at *;generalize CP c=CN at *;generalize CZ c=SR at *;simp only[AD]at qG qP qC qA q|-;simp at q;by_cases hn:B.1<0
  ·rw[if_pos hn];simp[c39,AF,qG,qP,qC,qA,hp,hn,q,f1,f2,g8b,AU,AS,A6]
  ·rw[if_neg hn];simp[c39,AF,qG,qP,qC,qA,hp,hn,q,f1,f2,g8b,AU,AS,A6]
 ·have eb:S8 c=(-1,0):=by rw[hbg,hnil];rfl
  rw[eb,if_pos (by decide)];clear hq hbg eb;generalize (AK c []).map A2=GG at *;generalize CD (AK c [])=PG at *;generalize CP c=CN at *;generalize CZ c=SR at *;simp only[AD]at qG qP qC qA|-;simp[c39,AF,qG,qP,qC,qA,hp,AB,g8b,AU,AS,A6]
theorem A3X{k:Nat}{x:Int×Int}(h:k<=10000):B5 cp 59 k [[i x.1,i x.2]]=true:=by rw[BZ (by simp) (by simp)];simp[maxLen];omega
theorem A3Y(ss:List (Int×Int))(h1:ss.length<=9):∀(d k c γ:Nat),k+d=ss.length->∃fr c' γ',BD fr 3=some (true,pv 28 γ' (ss.map AJ))/\∀n m,d<m->BA (AE cp ann kn (n+100) 30) aB (ann 30 (BU aB)) m ⟨c,[(0,true,.list false (ss.map AJ)),(3,true,pv 28 γ ((ss.take k).map AJ)),(4,true,i k)],⟨[],pl 28 γ 59 ((ss.take k).map AJ)⟩⟩ =
  some (.exit 0,⟨c',fr,⟨[],pl 28 γ' 59 (ss.map AJ)⟩⟩)
 |0,k,c,γ,hk=>by
  obtain rfl:k=ss.length:=by omega
  rw[List.take_length];refine⟨?fr,c,γ,?g1,fun n m hm=>?g9⟩;case g9=>
   obtain⟨m,rfl⟩:=qNz m (by omega)
   rw[AB]
   simp
   rfl
  case g1=>simp
 |d+1,k,c,γ,hk=>by
  have hk':k<ss.length:=by omega
  have h9:(k:Int)<9:=by omega
  have hw:=BJ (k:=k) (by omega);have hst:(ss.take (k+1)).map AJ=(ss.take k).map AJ++[AJ ss[k]]:=by rw[bk hk',List.map_append];rfl
  have happ:=A3X (k:=((ss.take k).map AJ).length) (x:=ss[k]) (by rw[List.length_map,bx];omega);obtain⟨fr,c',γ',e1,ih⟩:=A3Y ss h1 d (k+1) (c+1) c (by omega);refine⟨fr,c',γ',e1,fun n m hm=>?_⟩;obtain⟨m,rfl⟩:=qNz m (by omega);have ih:=ih n m (by omega);rw[hst]at ih;have hR1:∀e∈(ss.take k).map AJ,e.length=2:=fun e he=>by obtain⟨l,_,rfl⟩:=bf.1 he;rfl
  generalize (ss.take k).map AJ=R at *;rw[AB];cases R with
  |nil=>simp[AJ,VU]at ih happ;simp[-cn,hk',h9,hw,AJ,happ,ih,MO,ZF,CI,B7]
  |cons r R=>
   have hR2:=hR1 r (by simp)
   have hR3:=eq_true (fun e he=>hR1 e (cw r he):∀e∈R,e.length=2)
   simp[AJ,VU,-cn]at ih happ
   simp[-cn,hk',h9,hw,AJ,VU,happ,hR2,hR3,ih,MO,CI,B7]
theorem AS5(n:Nat)(ss:List (Int×Int))(h1:ss.length<=9):AY cp kn (AE cp ann kn (n+300)) 40 [.list false (ss.map AJ)]=some (sl (ss.map AJ)):=by rw[AN rfl,AO Tryz.func40 b40 rfl (by simp)];obtain⟨fr,c',γ',e1,q⟩:=A3Y ss h1 ss.length 0 0 0 (by omega);have q:=fun n m=>q n (m+101) (by omega);rw[List.take_zero]at q;simp at q;simp[c40,AF,q,e1]
end Go.Proofs.Tryz.Op
