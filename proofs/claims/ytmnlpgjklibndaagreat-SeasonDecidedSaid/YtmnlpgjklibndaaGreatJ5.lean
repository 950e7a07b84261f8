/- Contracts: Honest, Decides; the walk of SeasonDecides: true. No condition. -/
import Derived.Test.YtmnlpgjklibndaaGreatJ4
open Go.Proofs.Tryz renaming prog->cp
open List renaming getElem?_eq_getElem->bj,getD_eq_getElem?_getD->bq,all_eq_true->bw,getElem_mem->bx,map_nil->bz,length_pos_iff->bc,mem_or_eq_of_mem_set->bf,nil_append->bg,drop_eq_getElem_cons->bn,length_map->bp,mem_iff_getElem->ck,append_assoc->cx,mem_map->cg
open Int renaming natCast_zero->bh,ofNat_tmod->cq
open Nat renaming add_assoc->br,reduceAdd->bt,mod_lt->cz,le_trans->cd,mod_le->cm
open Option renaming some->cj
set_option maxRecDepth 100000
set_option linter.unusedSimpArgs false
open Go Go.Pg Go.Proofs Go.Season
namespace Go.Proofs.Tryz.Op
theorem AEO(T:List (List AF))(ws:List Wrd)(hws:ws.length<=90)(hT:∀t∈T,t.length<=90/\∀w∈ws,GB t.length w)(hTl:T.length<=5000):∀(d k:Nat) (out:List (List AF)) (cc γ:Nat),k+d=T.length->out.length<=k ->
  ∃c' γ':Nat,∀n m,d<m->BN (AH cp ann kn (n+350) 28) YK (ann 28 (CC YK)) m ⟨cc,[(0,true,.list false (T.map BK)),(1,true,J2 ws),(5,true,pv 26 γ (out.map BK)),(6,true,i k)],⟨[],pl 26 γ 22 (out.map BK)⟩⟩ =
   some (.exit 0,⟨c',[(10,true,.bool false),(9,true,i T.length),(8,true,.list false (T.map BK)),(7,true,i T.length),(0,true,.list false (T.map BK)),(1,true,J2 ws),(5,true,pv 26 γ' ((out++(T.drop k).filter fun s=>ws.all (BI s)).map BK)),(6,true,i T.length)],⟨[],pl 26 γ' 22 ((out++(T.drop k).filter fun s=>ws.all (BI s)).map BK)⟩⟩)
 |0,k,out,cc,γ,hd,ho=>by
  have:k=T.length:=by omega
  subst this;refine⟨cc,γ,fun n m hm=>?_⟩;obtain⟨m,rfl⟩:=qNz m (by omega);simp[AD]
 |d+1,k,out,cc,γ,hd,ho=>by
  have hk:k<T.length:=by omega
  have hwk:=DF (k:=k) (by omega);have hh:=hT _ (bx hk);have q:=fun n=>XQ n T[k] ws hh.1 hws hh.2;rw[bn hk];generalize hv:ws.all (BI T[k])=v at q;have hg1:(T.map BK)[k]? = some (BK T[k]):=by simp[hk]
  generalize ht:T[k]=t at q hv hg1;cases v with
  |false=>
   obtain⟨c',γ',ih⟩:=AEO T ws hws hT hTl d (k+1) out cc γ (by omega) (by omega)
   refine⟨c',γ',fun n m hm=>?_⟩
   obtain⟨m,rfl⟩:=qNz m (by omega)
   have ih:=ih n m (by omega)
   rw[AD,List.filter_cons_of_neg (by simp[hv])]
   generalize hTe:T.map BK=TT at ih hg1|-
   have hkT:k<TT.length:=by rw[<-hTe,bp];exact hk
   have hln:TT.length=T.length:=by rw[<-hTe,bp]
   have hgT:TT[k]=BK t:=by rw[bj hkT]at hg1;exact cj.inj hg1
   simp only[BK]at q ih hgT|-
   try simp at ih
   simp[hk,hwk,hgT,hln,hkT,AB,AG,q,ih]
  |true=>
   obtain⟨c',γ',ih⟩:=AEO T ws hws hT hTl d (k+1) (out++[t]) (cc+1) cc (by omega) (by simp;omega)
   refine⟨c',γ',fun n m hm=>?_⟩
   obtain⟨m,rfl⟩:=qNz m (by omega)
   have ih:=ih n m (by omega)
   rw[AD,List.filter_cons_of_pos (by simp[hv])]
   generalize hTe:T.map BK=TT at ih hg1|-
   have hkT:k<TT.length:=by rw[<-hTe,bp];exact hk
   have hln:TT.length=T.length:=by rw[<-hTe,bp]
   have hgT:TT[k]=BK t:=by rw[bj hkT]at hg1;exact cj.inj hg1
   have happ:=A47 (k:=out.length) (x:=sl (t.map AB)) (by omega) (by cases t<;>rfl)
   simp only[List.map_append,List.map_cons,bz,FJ,BK,cx,List.cons_append,bg]at q ih hgT happ|-
   try simp at ih
   simp[hk,hwk,hgT,hln,hkT,AB,AG,BK,q,happ,ih]
theorem A5D(n:Nat)(T:List (List AF))(ws:List Wrd)(hws:ws.length<=90)(hT:∀t∈T,t.length<=90/\∀w∈ws,GB t.length w)(hTl:T.length<=5000):AW cp kn (AH cp ann kn (n+5400)) 88 [.list false (T.map BK),J2 ws]=some (sl ((FA T ws).map BK)):=by
 rw[AO rfl,AP Tryz.func88 b88 rfl (by simp[BK,AB,AG])];obtain⟨c',γ',ih⟩:=AEO T ws hws hT hTl T.length 0 [] 0 0 (by omega) (by simp);have ih:=ih (n+5044) (n+5394) (by omega);simp only[bz,bg,List.drop_zero,LD,HZ,bh,br,bt]at ih;rw[show(T.filter fun s=>ws.all (BI s))=FA T ws from rfl]at ih;generalize FA T ws=L at ih|-;have hcl:(L.map BK).all (fun e=>e.all (AK 8))=true:=by simp[BK,AB]
 generalize L.map BK=LL at ih hcl|-;generalize T.map BK=TT at ih|-;try simp at ih
 simp[c88,AJ,ih];try exact fun x hx v hv=>bw.1 (bw.1 hcl x hx) v hv
theorem A5E(n:Nat)(T:List (List AF))(ws:List Wrd)(w:Wrd)(hws:ws.length<=90)(hT:∀t∈T,t.length<=90/\(∀w∈ws,GB t.length w)/\GB t.length w)(hne:T≠[])(hTl:T.length<=5000):AW cp kn (AH cp ann kn (n+5600)) 39 [.list false (T.map BK),J2 ws,.agg (AG w)]=some (.bool (decide (BO w T=3)&&IC T w ws)):=by
 rw[AO rfl,AP Tryz.func39 b39 rfl (by simp[BK,AB,AG])];have qH:=fun n=>A5D n T ws hws (fun t ht=>⟨(hT t ht).1,(hT t ht).2.1⟩) hTl;have qJ:=fun n=>AEH n T w (fun t ht=>⟨(hT t ht).1,(hT t ht).2.2⟩) hTl;rw[XO _ hne,<-J1]at qJ;have hs1:∀t∈FA T ws,t∈T:=fun t ht=>(List.mem_filter.1 ht).1;have hle:(FA T ws).length<=T.length:=List.length_filter_le _ _;have qK:=fun n=>AEH n (FA T ws) w (fun t ht=>⟨(hT t (hs1 t ht)).1,(hT t (hs1 t ht)).2.2⟩) (by omega);have hc7:((FA T ws).map BK).all (fun e=>e.all (AK 7))=true:=by simp[BK,AB]
 have hc8:((FA T ws).map BK).all (fun e=>e.all (AK 8))=true:=by simp[BK,AB]
 have ht7:(T.map BK).all (fun e=>e.all (AK 7))=true:=by simp[BK,AB]
 have ht8:(T.map BK).all (fun e=>e.all (AK 8))=true:=by simp[BK,AB]
 unfold IC;by_cases hF:FA T ws=[]
 ·rw[hF]at qH;simp only[hF,bz]at qH|-;generalize T.map BK=TT at *;by_cases h3:BO w T=3
  ·rw[h3]at qJ;simp only[AG]at qJ|-;simp[c39,AJ,AG,AB,qH,qJ,h3,ht7,ht8]
  ·generalize BO w T=v at qJ h3|-;simp only[AG]at qJ|-;simp[c39,AJ,AG,AB,qH,qJ,h3,ht7,ht8]
 ·rw[XO _ hF,<-J1]at qK;have hlp:0<(FA T ws).length:=bc.2 hF;have hll:((FA T ws).map BK).length=(FA T ws).length:=by simp
  have hlp2:0<((FA T ws).map BK).length:=by omega
  simp only[hF,decide_false,Bool.not_false,Bool.true_and];generalize (FA T ws).map BK=HH at qH qK hc7 hc8 hll hlp2;generalize T.map BK=TT at *;generalize BO w (FA T ws)=u at qK|-;by_cases h3:BO w T=3
  ·rw[h3]at qJ;simp only[AG]at qJ qK|-;simp[c39,AJ,AG,AB,qH,qJ,qK,h3,hlp2,ht7,ht8,hc7,hc8]
  ·generalize BO w T=v at qJ h3|-;simp only[AG]at qJ qK|-;simp[c39,AJ,AG,AB,qH,qJ,qK,h3,hlp2,ht7,ht8,hc7,hc8]
theorem AEP(c:BC)(TT D:List (List V))(w:Wrd)(S:List (List AF))(kc:Nat)(hkc:kc<c.claims.length)(hw:c.claims[kc]=w)(h3:Bool)(hn:c.wits.length<=90)(hcl:TT.all (fun e=>e.all (AK 7))=true)(hcl8:TT.all (fun e=>e.all (AK 8))=true)(hq:∀n,∀l∈c.wits,AW cp kn (AH cp ann kn (n+5600)) 39 [.list false TT,J2 l,.agg (AG w)]=some (.bool (h3&&IC S w l))):∀(d k:Nat) (out:List Int) (cc γ:Nat),k+d=c.wits.length->out.length<=k ->
  ∃c' γ':Nat,∀n m,d<m->BN (AH cp ann kn (n+5650) 82) YL (ann 82 (CC YL)) m ⟨cc,[(1,true,i kc),(2,true,.ptr 0 2 0 0),(5,true,sl D),(6,true,i 0),(7,true,sl TT),(9,true,pv 71 γ (out.map BM)),(10,true,i k)],⟨[],(2,0,.box (AC c))::pl 71 γ 3 (out.map BM)⟩⟩ =
   some (.exit 0,⟨c',[(53,true,.bool false),(52,true,i c.wits.length),(51,true,.list false (c.wits.map AL)),(50,true,.ptr 0 2 0 5),(49,true,i c.wits.length),(1,true,i kc),(2,true,.ptr 0 2 0 0),(5,true,sl D),(6,true,i 0),(7,true,sl TT),(9,true,pv 71 γ' ((out++if h3=true then D4 S w k (c.wits.drop k) else[]).map BM)),(10,true,i c.wits.length)],⟨[],(2,0,.box (AC c))::pl 71 γ' 3 ((out++if h3=true then D4 S w k (c.wits.drop k) else[]).map BM)⟩⟩)
 |0,k,out,cc,γ,hd,ho=>by
  have:k=c.wits.length:=by omega
  subst this;refine⟨cc,γ,fun n m hm=>?_⟩;obtain⟨m,rfl⟩:=qNz m (by omega);have e:(if h3=true then D4 S w c.wits.length (c.wits.drop c.wits.length) else[])=[]:=by rw[List.drop_length];simp[D4]
  rw[e,List.append_nil];simp[AD,AC]
 |d+1,k,out,cc,γ,hd,ho=>by
  have hk:k<c.wits.length:=by omega
  have hwk:=DF (k:=k) (by omega);have q:=fun n=>hq n c.wits[k] (bx hk);have hgk:(c.claims.map AG)[kc]? = some (AG w):=by simp[hkc,hw]
  have hd1:(if h3=true then D4 S w k (c.wits.drop k) else[])=(if (h3&&IC S w c.wits[k])=true then[(k:Int)] else[])++(if h3=true then D4 S w (k+1) (c.wits.drop (k+1)) else[]):=by rw[bn hk];rw[show D4 S w k (c.wits[k]::c.wits.drop (k+1))=(if IC S w c.wits[k]=true then(k:Int)::D4 S w (k+1) (c.wits.drop (k+1)) else D4 S w (k+1) (c.wits.drop (k+1))) from rfl];cases h3<;>cases IC S w c.wits[k]<;>simp
  rw[hd1];generalize (h3&&IC S w c.wits[k])=b at q;generalize hl:c.wits[k]=l at q;cases b with
  |false=>
   obtain⟨c',γ',ih⟩:=AEP c TT D w S kc hkc hw h3 hn hcl hcl8 hq d (k+1) out cc γ (by omega) (by omega)
   refine⟨c',γ',fun n m hm=>?_⟩
   obtain⟨m,rfl⟩:=qNz m (by omega)
   have ih:=ih n m (by omega)
   rw[AD]
   simp only[Bool.false_eq_true,if_false,bg]
   generalize (if h3=true then D4 S w (k+1) (c.wits.drop (k+1)) else[])=R at ih|-
   simp only[AC,AG]at q ih hgk|-
   try simp at ih
   simp[hk,hkc,hw,hl,hwk,AG,AL,AB,AM,q,hcl,hcl8,ih]
  |true=>
   obtain⟨c',γ',ih⟩:=AEP c TT D w S kc hkc hw h3 hn hcl hcl8 hq d (k+1) (out++[(k:Int)]) (cc+1) cc (by omega) (by simp;omega)
   have happ:=vU (k:=out.length) (x:=(k:Int)) (by omega)
   refine⟨c',γ',fun n m hm=>?_⟩
   obtain⟨m,rfl⟩:=qNz m (by omega)
   have ih:=ih n m (by omega)
   rw[AD]
   simp only[if_true]
   generalize (if h3=true then D4 S w (k+1) (c.wits.drop (k+1)) else[])=R at ih|-
   simp only[AC,AG,List.map_append,List.map_cons,bz,FJ,BM,cx,List.cons_append,bg]at q ih hgk|-
   try simp at ih
   simp[hk,hkc,hw,hl,hwk,AG,AL,AB,AM,BM,q,hcl,hcl8,happ,P8,ih]
theorem AEQ(n:Nat)(c:BC)(k:Int):AW cp kn (AH cp ann kn (n+11600)) 5 [.agg (AC c),i k]=some (.bool true):=by
 rw[AO rfl,AP Tryz.func5 b5 rfl (by simp[AC,AB,AM,AG,AL])];have qA:=fun n d st=>WJ n d st;have qT:=fun n=>rL n c;cases ht:RO c with
 |false=>
  rw[ht]at qT
  simp only[AC]at qT|-
  simp[c5,AJ,qT,qA,AB,AM,AG,AL]
 |true=>
  rw[ht]at qT
  obtain⟨t1,t2,t3,t4,t5⟩:=LJ ht
  have qC:=fun n=>XR n c (by omega) (by omega) (by omega) (fun l hl=>by have:=t5 l hl;omega) (by omega)
  have qF:=fun n=>fR n c (by omega) (by omega) (fun l hl=>by have:=t5 l hl;omega)
  have qS:=fun n=>AEJ n c (by omega) (by omega) (fun l hl=>by have:=t5 l hl;omega)
  have qD:=fun n=>R5 n c k (by omega)
  have qI:=fun n=>yV n c k (by omega)
  unfold AEN at qD
  unfold wE at qS
  by_cases he:CB c=0
  ·have ok:=MJ he;have h8:=ok.lines;rw[he]at qF;cases hin:D7 k 0 ((c.claims.length:Int)-1)with
   |false=>
    have ha:DV c false=2:=by simp[DV,he]
    rw[hin,ha]at qD
    rw[if_neg (by decide)]at qD
    rw[hin]at qI
    have hsv:∃X Y,(if DV c true=0 then V.tup [sl ((HA c).map BK),i 0] else V.tup [.nil,i (DV c true)])=.tup [X,i Y]:=by split<;>exact⟨_,_,rfl⟩
    obtain⟨X,Y,hsv⟩:=hsv
    rw[hsv]at qS
    simp only[AC,HC]at qT qC qF qS qD qI|-
    simp[c5,AJ,qT,qA,qC,qF,qS,qD,qI,AB,AM,AG,AL]
   |true=>
    rw[hin]at qD qI
    by_cases hk:AR c=[]
    ·have ha:DV c true=11:=by rw[HD he,if_pos hk]
     rw[ha,if_neg (by decide)]at qD qS;simp only[AC,HC]at qT qC qF qS qD qI|-;simp[c5,AJ,qT,qA,qC,qF,qS,qD,qI,AB,AM,AG,AL]
    ·have ha:DV c true=0:=by rw[HD he,if_neg hk]
     obtain⟨k,rfl⟩:∃j:Nat,k=j:=⟨k.toNat,by simp[D7]at hin;omega⟩;have hkc:k<c.claims.length:=by simp[D7]at hin;omega
     have hg:c.claims.getD ((k:Int)).toNat bW=c.claims[k]:=by simp[bq,hkc]
     have hcw:=ok.cw _ (bx hkc);have hwx:=ok.wx;have hw4:=ok.wl;obtain⟨r1,r2⟩:=fP ok;have htn:HA c≠[]:=fun e=>hk ((PB ok).1 e);have hset:∀s,s∈HA c↔s∈AR c:=fun s=>MH ok;rw[ha,if_pos rfl]at qD qS;rw[hg]at qD;have hcl7:((HA c).map BK).all (fun e=>e.all (AK 7))=true:=by simp[BK,AB]
     have hcl8:((HA c).map BK).all (fun e=>e.all (AK 8))=true:=by simp[BK,AB]
     have hlen:=XP (S:=AR c) (w:=c.claims[k]) c.wits;have hR:∀n,∀l∈c.wits,AW cp kn (AH cp ann kn (n+5600)) 39 [.list false ((HA c).map BK),J2 l,.agg (AG c.claims[k])]=some (.bool (decide (BO c.claims[k] (AR c)=3)&&IC (AR c) c.claims[k] l)):=fun n l hl=>by have:=A5E n (HA c) l c.claims[k] (by have:=hwx l hl;omega) (fun t ht=>⟨by rw[r1 t ht];omega,fun w hw=>by rw[r1 t ht];exact ok.ww l hl w hw,by rw[r1 t ht];exact hcw⟩) htn (by omega);rw[AB8 hset,cX hset];exact this
     obtain⟨c1,γ1,z1⟩:=AEP c ((HA c).map BK) ((FN (AR c) c.claims[k] c.wits).map BM) c.claims[k] (AR c) k hkc rfl (decide (BO c.claims[k] (AR c)=3)) (by omega) hcl7 hcl8 hR c.wits.length 0 [] 1 0 (by omega) (by simp);have z1:=z1 (n+5939) (n+11589) (by omega);have hdl:(if decide (BO c.claims[k] (AR c)=3)=true then D4 (AR c) c.claims[k] 0 c.wits else[])=FN (AR c) c.claims[k] c.wits:=by unfold FN;by_cases h3:BO c.claims[k] (AR c)=3<;>simp[h3]
     have qN:=fun n=>AB6 n (FN (AR c) c.claims[k] c.wits) (FN (AR c) c.claims[k] c.wits) (by omega) (by omega);rw[List.drop_zero,bg,hdl]at z1;rw[show decide (FN (AR c) c.claims[k] c.wits=FN (AR c) c.claims[k] c.wits)=true by simp]at qN;have hA:((FN (AR c) c.claims[k] c.wits).map BM).all (fun e=>e.all (AK 8))=true:=by simp[BM]
     generalize (FN (AR c) c.claims[k] c.wits).map BM=A at qD z1 qN hA;generalize (HA c).map BK=TT at qS z1;simp only[AC,HC,bz,LD,HZ,br,bt,bh]at qT qC qF qS qD qI z1 qN|-;try simp at z1
     simp[c5,AJ,qT,qA,qC,qF,qS,qD,qI,AB,AM,AG,AL];simp[z1,qN,qA,hA]
  ·have ha:∀b,DV c b=CB c:=fun b=>by simp[DV,he]
   have hd:decide (CB c=0)=false:=by simpa using he
   rw[ha,if_neg he]at qD qS;generalize CB c=E at qF qD qS he hd;simp only[AC,HC]at qT qC qF qS qD|-;simp[c5,AJ,qT,qA,qC,qF,qS,qD,he,hd,AB,AM,AG,AL]
theorem AER(n:Nat)(v:Int)(hv:v=1\/v=2\/v=3):AW cp kn (AH cp ann kn (n+100)) 56 [i v,.bool true]=some (i (bT v true)):=by rw[AO rfl,AP Tryz.func56 b56 rfl rfl];rcases hv with rfl|rfl|rfl<;>simp[c56,AJ,bT]
def V5(w:Wrd):Wrd:={ w with out:=!w.out }
def IE(c:BC)(r:Nat):BC:={ c with claims:=c.claims.set r (V5 (c.claims.getD r bW)) }
theorem AKF{p:Wrd->Bool}(hp:∀w,p (V5 w)=p w)(r:Nat)(l:List Wrd)(hr:r<l.length):(l.set r (V5 (l.getD r bW))).all p=l.all p:=by
 have hg:l.getD r bW=l[r]:=by simp[bq,hr]
 rw[hg,Bool.eq_iff_iff,bw,bw];constructor
 ·intro h x hx;obtain⟨k,hk,rfl⟩:=List.getElem_of_mem hx;by_cases e:r=k
  ·subst e;have:=h (V5 l[r]) (ck.2 ⟨r,by simpa using hr,by simp⟩);rwa [hp]at this
  ·exact h l[k] (ck.2 ⟨k,by simpa using hk,by simp[e]⟩)
 ·intro h x hx;rcases bf hx with h1|rfl
  ·exact h x h1
  ·rw[hp];exact h _ (bx hr)
theorem yX(c:BC)(r:Nat)(hr:r<c.claims.length):CB (IE c r)=CB c:=by
 have e1:(IE c r).claims.length=c.claims.length:=by simp[IE]
 have e2:(IE c r).claims.all (DJ c)=c.claims.all (DJ c):=AKF (fun w=>rfl) r c.claims hr;have e3:DJ (IE c r)=DJ c:=rfl;unfold CB;rw[e1,e3,e2];rfl
theorem R6(c:BC)(r:Nat):AR (IE c r)=AR c:=by rw[fV,fV];rfl
theorem ABX(n:Nat)(c:BC)(κ:Nat)(hκ:κ<=255):AW cp kn (AH cp ann kn (n+11500)) 14 [.agg (AC c),.int .u8 κ]=some (.bool true):=by
 rw[AO rfl,AP Tryz.func14 b14 rfl (by simp[AC,AB,AM,AG,AL])];have qA:=fun n d st=>WJ n d st;have w1:IntKind.i64.wrap (κ:Int)=(κ:Int):=AU (by omega) (by omega);have m1:(κ:Int).tmod (c.claims.length:Int)=((κ % c.claims.length:Nat):Int):=(cq _ _).symm;have qR:=fun n=>vW n c;generalize hR:TU c=R at qR;cases R with
 |false=>
  simp only[AC]at qR|-
  simp[c14,AJ,qR,qA,AB,AM,AG,AL]
 |true=>
  by_cases h0:c.claims=[]
  ·simp only[AC,h0,bz]at qR|-;simp[c14,AJ,qR,qA,AB,AM,AG,AL]
  ·obtain⟨ht,he,ok⟩:=AC9 hR;obtain⟨t1,t2,t3,t4,t5⟩:=LJ ht;have hcp:0<c.claims.length:=bc.2 h0;have l1:κ % c.claims.length<c.claims.length:=cz _ hcp;have l2:=cm κ c.claims.length;generalize κ % c.claims.length=r at m1 l1 l2;have wr1:IntKind.i64.wrap (r:Int)=(r:Int):=AU (by omega) (by omega);have hex:CB (IE c r)=0:=(yX c r l1).trans he;have hg:c.claims.getD r bW=c.claims[r]:=by simp[bq,l1]
   have hxe:IE c r={ c with claims:=c.claims.set r (V5 c.claims[r]) }:=by unfold IE;rw[hg]
   have hxl:(IE c r).claims.length=c.claims.length:=by simp[IE]
   have hgr:(c.claims.map AG)[r]? = some (AG c.claims[r]):=by simp[l1]
   have qC:=fun n=>XR n c (by omega) (by omega) (by omega) (fun l hl=>by have:=t5 l hl;omega) (by omega);have qD:=fun n=>XR n (IE c r) (by exact cd t1 (by omega)) (by exact cd t2 (by omega)) (by exact cd t3 (by omega)) (fun l hl=>by have:=t5 l hl;omega) (by rw[hxl];omega);have j1:=fun n=>WM n c;have j2:=fun n=>WM n (IE c r);have d1:=fun n=>R5 n c r (by omega);have d2:=fun n=>R5 n (IE c r) r (by rw[hxl];omega);have hin:D7 (r:Int) 0 ((c.claims.length:Int)-1)=true:=by simp[D7];omega
   have hinx:D7 (r:Int) 0 (((IE c r).claims.length:Int)-1)=true:=by rw[hxl];exact hin
   have hgx:(IE c r).claims.getD ((r:Int)).toNat bW=V5 c.claims[r]:=by rw[hxe];simp[bq,l1]
   have hgc:c.claims.getD ((r:Int)).toNat bW=c.claims[r]:=by rw[Int.toNat_natCast];exact hg
   unfold AEN at d1 d2;rw[hin,hgc]at d1;rw[hinx,hgx,R6]at d2;rw[Q0]at j1 j2;have a1:CD cp 54 0 (c.claims.map AG)=true:=by
    rw[CQ (by simp) (by simp)];refine⟨bw.2 fun e he=>?_,?_,?_⟩
    ·obtain⟨x,_,rfl⟩:=cg.1 he;simp[AG]
    ·simp[maxLen];omega
    ·simp;omega
   have hs7:((c.claims.map AG).set r (AG (V5 c.claims[r]))).all (fun e=>e.all (AK 7))=true:=bw.2 fun e he=>by
    rcases bf he with h1|rfl
    ·obtain⟨x,_,rfl⟩:=cg.1 h1;simp[AG]
    ·simp[AG]
   have hs8:((c.claims.map AG).set r (AG (V5 c.claims[r]))).all (fun e=>e.all (AK 8))=true:=bw.2 fun e he=>by
    rcases bf he with h1|rfl
    ·obtain⟨x,_,rfl⟩:=cg.1 h1;simp[AG]
    ·simp[AG]
   by_cases hk:AR c=[]
   ·have ha:DV c true=11:=by rw[HD he,if_pos hk]
    have hax:DV (IE c r) true=11:=by rw[HD hex,R6,if_pos hk]
    rw[ha]at j1 d1;rw[hax]at j2 d2;rw[if_neg (by decide)]at d1 d2;rw[hxe]at qD j2 d2;generalize I0 c=A at j1;generalize I0 { c with claims:=c.claims.set r (V5 c.claims[r]) }=B at j2;generalize hw:c.claims[r]=w at *;simp only[AC,HC,List.map_set,AG,V5]at qR qC qD j1 j2 d1 d2 hs7 hs8 hgr|-;simp[c14,AJ,qR,qA,qC,qD,j1,j2,d1,d2,X0,w1,m1,wr1,h0,hw,l1,a1,P8,hs7,hs8,AB,AM,AG,AL]
   ·have ha:DV c true=0:=by rw[HD he,if_neg hk]
    have hax:DV (IE c r) true=0:=by rw[HD hex,R6,if_neg hk]
    rw[ha]at j1 d1;rw[hax]at j2 d2;rw[if_pos rfl]at d1 d2;have hdx:FN (AR c) (V5 c.claims[r]) (IE c r).wits=FN (AR c) c.claims[r] c.wits:=ACA hk c.wits;rw[hdx]at d2;have hjA:I0 c=c.claims.map fun w=>BO w (AR c):=if_pos ha;have hjB:I0 (IE c r)=(IE c r).claims.map fun w=>BO w (AR c):=by have:I0 (IE c r)=ML (IE c r):=if_pos hax;rw[this];unfold ML;rw[R6]
    have gA:((I0 c).map BM)[r]? = some [i (BO c.claims[r] (AR c))]:=by rw[hjA];simp[l1,BM]
    have gB:((I0 (IE c r)).map BM)[r]? = some [i (bT (BO c.claims[r] (AR c)) true)]:=by rw[hjB,<-TP hk];simp[IE,l1,BM,hg];rfl
    have lA:((I0 c).map BM).length=c.claims.length:=by rw[hjA];simp
    have lB:((I0 (IE c r)).map BM).length=c.claims.length:=by rw[hjB];simp[hxl]
    have hv:BO c.claims[r] (AR c)=1\/BO c.claims[r] (AR c)=2\/BO c.claims[r] (AR c)=3:=EU (fun ls=>[c.claims[r]].all (BI ls)) hk;have qU:=fun n=>AER n (BO c.claims[r] (AR c)) hv;have hdl:=XP (S:=AR c) (w:=c.claims[r]) c.wits;have qN:=fun n=>AB6 n (FN (AR c) c.claims[r] c.wits) (FN (AR c) c.claims[r] c.wits) (by omega) (by omega);rw[show decide (FN (AR c) c.claims[r] c.wits=FN (AR c) c.claims[r] c.wits)=true by simp]at qN;have hD7:((FN (AR c) c.claims[r] c.wits).map BM).all (fun e=>e.all (AK 7))=true:=by simp[BM]
    have hD8:((FN (AR c) c.claims[r] c.wits).map BM).all (fun e=>e.all (AK 8))=true:=by simp[BM]
    generalize (FN (AR c) c.claims[r] c.wits).map BM=D at d1 d2 qN hD7 hD8;generalize BO c.claims[r] (AR c)=v at gA gB qU;generalize bT v true=u at gB qU;generalize (I0 c).map BM=A at j1 gA lA;generalize (I0 (IE c r)).map BM=B at j2 gB lB;have rA:r<A.length:=by omega
    have rB:r<B.length:=by omega
    rw[bj rA]at gA;rw[bj rB]at gB;have gA:=cj.inj gA;have gB:=cj.inj gB;have l1i:(r:Int)<(c.claims.length:Int):=by omega
    rw[hxe]at qD j2 d2;generalize hw:c.claims[r]=w at *;simp only[AC,HC,List.map_set,AG,V5]at qR qC qD j1 j2 d1 d2 hs7 hs8 hgr|-;simp[c14,AJ,qR,qA,qC,qD,j1,j2,d1,d2,qU,qN,X0,w1,m1,wr1,h0,hw,l1,l1i,lA,lB,rA,rB,gA,gB,a1,P8,US,hs7,hs8,hD7,hD8,AB,AM,AG,AL]
def I3(c:BC)(κ:Nat):List AF:=(HA c).getD (κ % (HA c).length) []
theorem lL{c:BC}(h:HA c≠[])(κ:Nat):I3 c κ∈HA c:=by have hl:0<(HA c).length:=bc.2 h;have h1:κ % (HA c).length<(HA c).length:=cz _ hl;unfold I3;rw[bq,bj h1];exact bx h1
def AES(c:BC)(κ:Nat):V:=if HA c=[] then .tup [.nil,.bool false] else .tup [sl ((I3 c κ).map AB),.bool true]
theorem AOK(n:Nat)(c:BC)(ok:QE c)(κ:Nat)(hκ:κ<=65535):AW cp kn (AH cp ann kn (n+5700)) 47 [.agg (AC c),.int .u16 κ]=some (AES c κ):=by
 rw[AO rfl,AP Tryz.func47 b47 rfl (by simp[AC,AB,AM,AG,AL])];have qT:=fun n=>A49 n c ok;have w1:IntKind.i64.wrap (κ:Int)=(κ:Int):=AU (by omega) (by omega);unfold AES;by_cases ht:HA c=[]
 ·rw[if_pos ht];rw[ht]at qT;simp only[AC,bz]at qT|-;simp[c47,AJ,qT,AB,AM,AG,AL]
 ·rw[if_neg ht];obtain⟨r1,r2⟩:=fP ok;have hl:0<(HA c).length:=bc.2 ht;have h1:κ % (HA c).length<(HA c).length:=cz _ hl;have hle:=cm κ (HA c).length;have m1:(κ:Int).tmod ((HA c).length:Int)=((κ % (HA c).length:Nat):Int):=(cq _ _).symm;have hp:((HA c).map BK)[κ % (HA c).length]? = some (BK (I3 c κ)):=by unfold I3;rw[List.getElem?_map,bj h1];simp[bq,h1]
  have hln:((HA c).map BK).length=(HA c).length:=by simp
  have hne:(HA c).map BK≠[]:=by simpa using ht
  have hcl:(List.map AB (I3 c κ)).all (fun e=>e.all (AK 7))=true:=by simp[AB]
  generalize κ % (HA c).length=r at m1 hp h1 hle;have wr:IntKind.i64.wrap (r:Int)=(r:Int):=AU (by omega) (by omega);generalize I3 c κ=t at hp hcl|-;generalize (HA c).map BK=TT at qT hp hln hne;have hr:r<TT.length:=by omega
  rw[bj hr]at hp;have hp:=cj.inj hp;have hz:¬(HA c).length=0:=by omega
  have e:decide (TT=[])=false:=by simpa using hne
  simp only[AC,BK]at qT hp|-;simp[c47,AJ,qT,AJD,w1,m1,wr,hp,hr,hln,hne,e,h1,hz,ht,AB,AM,AG,AL];try exact fun x hx v hv=>bw.1 (bw.1 hcl x hx) v hv
structure AOL(c:BC)(w:Wrd)(s t:List AF)(K:List (List V))(x:Int):Prop where
 h:∃j:Nat,∃hj:j<c.wits.length,x=(j:Int)/\K[j]? = some [i 3]/\(c.wits[j].all (BI s)=true->c.wits[j].all (BI t)=true->BI s w=BI t w)
theorem A5F(c:BC)(D:List Int)(J K:List (List V))(s t:List AF)(r:Nat)(w:Wrd)(hr:r<c.claims.length)(hw:c.claims[r]=w)(hJ:J[r]? = some [i 3])(hKl:K.length=c.wits.length)(hwl:c.wits.length<=90)(hDl:D.length<=90)(hs:s.length<=90)(htl:t.length<=90)(hsw:GB s.length w)(htw:GB t.length w)(hx:∀l∈c.wits,l.length<=90/\(∀w∈l,GB s.length w)/\∀w∈l,GB t.length w)(hD:∀x∈D,AOL c w s t K x)(cc:Nat):∀(d k:Nat),k+d=D.length->∀n m,d<m ->
  BN (AH cp ann kn (n+350) 184) MO (ann 184 (CC MO)) m ⟨cc,[(4,true,.ptr 0 4 0 0),(9,true,i r),(10,true,sl (D.map BM)),(12,true,sl J),(14,true,sl K),(16,true,sl (s.map AB)),(18,true,sl (t.map AB)),(20,true,i k)],⟨[],[(4,0,.box (AC c))]⟩⟩ =
   some (.exit 0,⟨cc,[(119,true,.bool false),(118,true,i D.length),(117,true,sl (D.map BM)),(116,true,i D.length),(4,true,.ptr 0 4 0 0),(9,true,i r),(10,true,sl (D.map BM)),(12,true,sl J),(14,true,sl K),(16,true,sl (s.map AB)),(18,true,sl (t.map AB)),(20,true,i D.length)],⟨[],[(4,0,.box (AC c))]⟩⟩)
 |0,k,hd,n,m+1,hm=>by
  have:k=D.length:=by omega
  subst this;simp[AD,AC]
 |d+1,k,hd,n,m+1,hm=>by
  have hk:k<D.length:=by omega
  have hwk:=DF (k:=k) (by omega);have ih:=A5F c D J K s t r w hr hw hJ hKl hwl hDl hs htl hsw htw hx hD cc d (k+1) (by omega) n m (by omega);obtain⟨j,hj,e1,e2,e3⟩:=(hD _ (bx hk)).h;obtain⟨x1,x2,x3⟩:=hx _ (bx hj);have q1:=fun n=>XQ n s c.wits[j] hs x1 x2;have q2:=fun n=>XQ n t c.wits[j] htl x1 x3;have q3:=fun n=>WH n s w hs hsw;have q4:=fun n=>WH n t w htl htw;have q25:=fun n=>k25 n (j:Int) 0 ((c.wits.length:Int)-1);have hin:D7 (j:Int) 0 ((c.wits.length:Int)-1)=true:=by simp[D7];omega
  rw[hin]at q25;have hwx:IntKind.i64.wrap ((c.wits.length:Int)-1)=(c.wits.length:Int)-1:=AU (by omega) (by omega);have hgw:(c.claims.map AG)[r]? = some (AG w):=by simp[hr,hw]
  have hgl:(c.wits.map AL)[j]? = some (AL c.wits[j]):=by simp[hj]
  have hgD:(D.map BM)[k]? = some [i (j:Int)]:=by simp[hk,BM,e1]
  have hDn:(D.map BM).length=D.length:=by simp
  rw[AD];generalize c.wits[j].all (BI s)=b1 at q1 e3;generalize c.wits[j].all (BI t)=b2 at q2 e3;generalize BI s w=b3 at q3 e3;generalize BI t w=b4 at q4 e3;generalize hlj:c.wits[j]=l at q1 q2 hgl;generalize D.map BM=DD at ih hgD hDn|-;have hkD:k<DD.length:=by omega
  rw[bj hkD]at hgD;have hgD:=cj.inj hgD;have hjK:j<K.length:=by omega
  rw[bj hjK]at e2;have e2:=cj.inj e2;have hrJ:r<J.length:=by
   rcases Nat.lt_or_ge r J.length with h|h
   ·exact h
   ·rw[List.getElem?_eq_none h]at hJ;cases hJ
  rw[bj hrJ]at hJ;have hJ:=cj.inj hJ;have hjI:(j:Int)<(c.wits.length:Int):=by omega
  simp only[AC,AG]at q3 q4 ih hgw|-;try simp at ih
  cases b1 with
  |false=>simp[hk,hkD,hDn,hwk,hgD,q25,hwx,hJ,hrJ,hr,hw,e2,hjK,hKl,hj,hjI,hlj,q1,US,AL,AG,AB,AM,ih]
  |true=>
   cases b2 with
   |false=>simp[hk,hkD,hDn,hwk,hgD,q25,hwx,hJ,hrJ,hr,hw,e2,hjK,hKl,hj,hjI,hlj,q1,q2,US,AL,AG,AB,AM,ih]
   |true=>
    have e4:b3=b4:=e3 rfl rfl
    subst e4
    simp[hk,hkD,hDn,hwk,hgD,q25,hwx,hJ,hrJ,hr,hw,e2,hjK,hKl,hj,hjI,hlj,q1,q2,q3,q4,US,AL,AG,AB,AM,ih]
theorem A5G(c:BC)(J K S1 S2:List (List V))(r:Nat)(cc:Nat):∀n m,0<m ->
  BN (AH cp ann kn (n+350) 184) MO (ann 184 (CC MO)) m ⟨cc,[(4,true,.ptr 0 4 0 0),(9,true,i r),(10,true,.nil),(12,true,sl J),(14,true,sl K),(16,true,sl S1),(18,true,sl S2),(20,true,i 0)],⟨[],[(4,0,.box (AC c))]⟩⟩ =
   some (.exit 0,⟨cc,[(119,true,.bool false),(118,true,i 0),(117,true,.nil),(116,true,i 0),(4,true,.ptr 0 4 0 0),(9,true,i r),(10,true,.nil),(12,true,sl J),(14,true,sl K),(16,true,sl S1),(18,true,sl S2),(20,true,i 0)],⟨[],[(4,0,.box (AC c))]⟩⟩)
 |n,m+1,_=>by simp[AD,AC]
theorem AET(n:Nat)(c:BC)(κ:Nat)(hκ:κ<=255)(κ1:Nat)(hκ1:κ1<=65535)(κ2:Nat)(hκ2:κ2<=65535):AW cp kn (AH cp ann kn (n+11600)) 11 [.agg (AC c),.int .u8 κ,.int .u16 κ1,.int .u16 κ2]=some (.bool true):=by
 rw[AO rfl,AP Tryz.func11 b11 rfl (by simp[AC,AB,AM,AG,AL])];have qA:=fun n d st=>WJ n d st;have w1:IntKind.i64.wrap (κ:Int)=(κ:Int):=AU (by omega) (by omega);have m1:(κ:Int).tmod (c.claims.length:Int)=((κ % c.claims.length:Nat):Int):=(cq _ _).symm;have qR:=fun n=>vW n c;generalize hR:TU c=R at qR;cases R with
 |false=>
  simp only[AC]at qR|-
  simp[c11,AJ,qR,qA,AB,AM,AG,AL]
 |true=>
  by_cases h0:c.claims=[]
  ·simp only[AC,h0,bz]at qR|-;simp[c11,AJ,qR,qA,AB,AM,AG,AL]
  ·obtain⟨ht,he,ok⟩:=AC9 hR;obtain⟨t1,t2,t3,t4,t5⟩:=LJ ht;have hcp:0<c.claims.length:=bc.2 h0;have l1:κ % c.claims.length<c.claims.length:=cz _ hcp;have l2:=cm κ c.claims.length;generalize κ % c.claims.length=r at m1 l1 l2;have wr1:IntKind.i64.wrap (r:Int)=(r:Int):=AU (by omega) (by omega);have hgc:c.claims.getD ((r:Int)).toNat bW=c.claims[r]:=by rw[Int.toNat_natCast];simp[bq,l1]
   have qC:=fun n=>XR n c (by omega) (by omega) (by omega) (fun l hl=>by have:=t5 l hl;omega) (by omega);have j1:=fun n=>WM n c;have k1:=fun n=>vV n c;have d1:=fun n=>R5 n c r (by omega);have p1:=fun n=>AOK n c ok κ1 hκ1;have p2:=fun n=>AOK n c ok κ2 hκ2;have hin:D7 (r:Int) 0 ((c.claims.length:Int)-1)=true:=by simp[D7];omega
   unfold AEN at d1;unfold AES at p1 p2;rw[hin,hgc]at d1;rw[Q0]at j1;rw[dD]at k1;by_cases hk:AR c=[]
   ·have ha:DV c true=11:=by rw[HD he,if_pos hk]
    have ht:=(PB ok).2 hk;rw[ha]at j1 k1 d1;rw[if_neg (by decide)]at d1;rw[if_pos ht]at p1 p2;generalize (I0 c).map BM=A at j1;generalize (QZ c).map BM=B at k1;simp only[AC,HC]at qR qC j1 k1 d1 p1 p2|-;simp[c11,AJ,qR,qA,qC,j1,k1,d1,p1,p2,X0,w1,m1,wr1,h0,l1,AB,AM,AG,AL]
   ·have ha:DV c true=0:=by rw[HD he,if_neg hk]
    have htn:HA c≠[]:=fun e=>hk ((PB ok).1 e);have h8:=ok.lines;have hwx:=ok.wx;rw[ha]at j1 k1 d1;rw[if_pos rfl]at d1;rw[if_neg htn]at p1 p2;have hs:=(MH ok).1 (lL htn κ1);have hu:=(MH ok).1 (lL htn κ2);have hsl:=IV hs;have hul:=IV hu;have hcw:=ok.cw _ (bx l1);have hjA:I0 c=c.claims.map fun w=>BO w (AR c):=if_pos ha;have hlA:QZ c=c.wits.map fun l=>JR l (AR c):=if_pos ha;have lJ:((I0 c).map BM).length=c.claims.length:=by rw[hjA];simp
    have lK:((QZ c).map BM).length=c.wits.length:=by rw[hlA];simp
    have hdl:=XP (S:=AR c) (w:=c.claims[r]) c.wits;by_cases h3:BO c.claims[r] (AR c)=3
    ·have gJ:((I0 c).map BM)[r]? = some [i 3]:=by rw[hjA];simp[l1,BM,h3]
     have hD:∀x∈FN (AR c) c.claims[r] c.wits,AOL c c.claims[r] (I3 c κ1) (I3 c κ2) ((QZ c).map BM) x:=fun x hx=>by unfold FN at hx;rw[if_pos h3]at hx;obtain⟨j,hj,e1,e2⟩:=TQ c.wits 0 x hx;refine⟨⟨j,hj,by rw[e1];simp,?_,fun a b=>ACB e2 hs hu a b⟩⟩;rw[hlA];have:=kF hk h3 e2;simp[hj,BM,this]
     have z1:=A5F c (FN (AR c) c.claims[r] c.wits) ((I0 c).map BM) ((QZ c).map BM) (I3 c κ1) (I3 c κ2) r c.claims[r] l1 rfl gJ lK (by omega) (by omega) (by omega) (by omega) (by rw[hsl];exact hcw) (by rw[hul];exact hcw) (fun l hl=>⟨by have:=hwx l hl;omega,fun w hw=>by rw[hsl];exact ok.ww l hl w hw,fun w hw=>by rw[hul];exact ok.ww l hl w hw⟩) hD 1 (FN (AR c) c.claims[r] c.wits).length 0 (by omega) (n+11236) (n+11586) (by omega);have hDn:((FN (AR c) c.claims[r] c.wits).map BM).length=(FN (AR c) c.claims[r] c.wits).length:=by simp
     generalize (FN (AR c) c.claims[r] c.wits).length=N at z1 hDn;generalize (FN (AR c) c.claims[r] c.wits).map BM=D at d1 z1 hDn;generalize (I0 c).map BM=A at j1 z1 lJ;generalize (QZ c).map BM=B at k1 z1 lK;generalize (I3 c κ1).map AB=S1 at p1 z1;generalize (I3 c κ2).map AB=S2 at p2 z1;simp only[AC,HC,br,bt,bh]at qR qC j1 k1 d1 p1 p2 z1|-;try simp at z1
     simp[c11,AJ,qR,qA,qC,j1,k1,d1,p1,p2,X0,w1,m1,wr1,h0,l1,lJ,lK,AB,AM,AG,AL];simp[z1,qA]
    ·have hD0:FN (AR c) c.claims[r] c.wits=[]:=by unfold FN;rw[if_neg h3]
     have z1:=A5G c ((I0 c).map BM) ((QZ c).map BM) ((I3 c κ1).map AB) ((I3 c κ2).map AB) r 1 (n+11236) (n+11586) (by omega);have e0:sl ([]:List (List V))=.nil:=rfl;rw[hD0,bz,e0]at d1;generalize (I0 c).map BM=A at j1 z1 lJ;generalize (QZ c).map BM=B at k1 z1 lK;generalize (I3 c κ1).map AB=S1 at p1 z1;generalize (I3 c κ2).map AB=S2 at p2 z1;simp only[AC,HC,bz,br,bt,bh]at qR qC j1 k1 d1 p1 p2 z1|-;try simp at z1
     simp[c11,AJ,qR,qA,qC,j1,k1,d1,p1,p2,X0,w1,m1,wr1,h0,l1,lJ,lK,AB,AM,AG,AL];simp[z1,qA]
end Go.Proofs.Tryz.Op
