/- The law walk SeatLeaves. No condition. -/
import Derived.Test.YthhdhbalenanjaaGreatD3
import Derived.Test.YthhdhbalenanjaaGreatZa
import Derived.Test.YthhdhbalenanjaaGreatC3
open List renaming eq_nil_of_length_eq_zero->bj
set_option maxRecDepth 100000
set_option linter.unusedSimpArgs false
open Go Go.Pg Go.Proofs Go.Wind
namespace Go.Proofs.Tryz.Op
theorem AJK(c:AP)(hc:B0 c)(p:List Int):∀(d k:Nat) (out:List Int) (γp cc:Nat),k+d=c.fams.length->out.length<=k->∃(γ' c':Nat) (fr:Fr),BG fr 1=some (true,.ptr 0 1 0 0)/\BG fr 5=some (true,sl (p.map AJ))/\BG fr 6=some (true,i 0)/\BG fr 10=some (true,pv 91 γ' ((out++X0 c d k).map AJ))/\∀n m,d<m ->
   A8 (AE Tryz.prog ann kn (n+9600) 102) aC (ann 102 (BU aC)) m ⟨cc,[(1,true,.ptr 0 1 0 0),(5,true,sl (p.map AJ)),(6,true,i 0),(8,true,FV (G7 c)),(10,true,pv 91 γp (out.map AJ)),(11,true,i k)],⟨[],(1,0,.box (AD c))::pl 91 γp 3 (out.map AJ)⟩⟩ =
    some (.exit 0,⟨c',fr,⟨[],(1,0,.box (AD c))::pl 91 γ' 3 ((out++X0 c d k).map AJ)⟩⟩)
 |0,k,out,γp,cc,hd,ho=>by
  have hnot:¬k<c.fams.length:=by omega
  refine⟨γp,cc,[(81,true,.bool false),(80,true,i c.fams.length),(79,true,.list false (c.fams.map AS)),(78,true,.ptr 0 1 0 11),(77,true,i k),(1,true,.ptr 0 1 0 0),(5,true,sl (p.map AJ)),(6,true,i 0),(8,true,FV (G7 c)),(10,true,pv 91 γp (out.map AJ)),(11,true,i k)],by simp,by simp,by simp,by simp[X0],fun n m hm=>?_⟩;obtain⟨m,rfl⟩:∃k',m=k'+1:=⟨m-1,by omega⟩;rw[show out++X0 c 0 k=out from List.append_nil _];cases out<;>simp[AB,AD,hnot]
 |d+1,k,out,γp,cc,hd,ho=>by
  have hfl:=hc.fl;have hk:k<c.fams.length:=by omega
  have hw:=BM (k:=k) (by omega);have qI:=fun n=>sC n c hc (G7 c) (mA hc) k hk;rw[zY hc hk]at qI;have happ:BW Tryz.prog 3 out.length [[.int .i64 k]]=true:=by rw[BQ (by simp) (by simp)];simp[maxLen];omega
  have hpt:X0 c (d+1) k=(if EP c k=true then[(k:Int)] else[])++X0 c d (k+1):=rfl;rw[hpt];cases hz:EP c k with
  |true=>
   rw[hz]at qI
   obtain⟨γ',c',fr,h1,h5,h6,h2,h3⟩:=AJK c hc p d (k+1) (out++[(k:Int)]) cc (cc+1) (by omega) (by simp;omega)
   rw[if_pos rfl,<-List.append_assoc]
   refine⟨γ',c',fr,h1,h5,h6,h2,fun n m hm=>?_⟩
   obtain⟨m,rfl⟩:∃k',m=k'+1:=⟨m-1,by omega⟩
   have h3:=h3 n m (by omega)
   generalize out++[(k:Int)]++X0 c d (k+1)=F at *
   rw[AB]
   simp only[AD]at qI h3|-
   cases out with
   |nil=>
    simp[AJ,pv,pl]at h3 happ
    simp[hk,hw,AU,BC,AS,happ,qI,h3,pv,pl]
   |cons a r=>
    simp[AJ]at h3 happ
    simp[hk,hw,AJ,AU,BC,AS,happ,qI,h3]
  |false=>
   rw[hz]at qI
   obtain⟨γ',c',fr,h1,h5,h6,h2,h3⟩:=AJK c hc p d (k+1) out γp cc (by omega) (by omega)
   rw[if_neg (by decide),List.nil_append]
   refine⟨γ',c',fr,h1,h5,h6,h2,fun n m hm=>?_⟩
   obtain⟨m,rfl⟩:∃k',m=k'+1:=⟨m-1,by omega⟩
   have h3:=h3 n m (by omega)
   generalize out++X0 c d (k+1)=F at *
   rw[AB]
   simp only[AD]at qI h3|-
   cases out with
   |nil=>
    simp at h3 happ
    simp[hk,hw,AU,BC,AS,qI,h3]
   |cons a r=>
    simp[AJ]at h3 happ
    simp[hk,hw,AJ,AU,BC,AS,qI,h3]
theorem AJL{c:AP}{y:List Int}(h:Y5 (FI c) c.fams.length y):FI c []=decide (y=[]):=by
 rw[Bool.eq_iff_iff,decide_eq_true_eq];constructor
 ·intro h0;have:=h.min [] trivial h0;unfold E8 at this;simp only[Bool.or_eq_false_iff,decide_eq_false_iff_not,List.length_nil]at this;exact bj (by omega)
 ·rintro rfl;exact h.can
set_option maxHeartbeats 4000000 in
theorem rH(n:Nat)(c:AP)(_:okC c):E1 Tryz.prog (AE Tryz.prog ann kn (n+10000)) 6 [.agg (AD c)]=some (.bool true):=by
 rw[AM Tryz.func6 b6 rfl (by simp[AD,AU,BC,AS])];have qr:=fun n=>ARX n c;cases hT:fM c with
 |false=>
  rw[hT]at qr
  simp only[AD]at qr|-
  simp[c6,AF,qr,AU,BC,AS,U4]
 |true=>
 rw[hT]at qr;obtain⟨t1,t2,t3,t4,t5,t6⟩:=ZE hT;obtain⟨l1,l2,l3,l4,l5,l6⟩:=vH t1;have qC:=fun n=>AR0 n c hT;have qL:=fun n=>AJY n c l4 (by omega);have qP:=fun n=>ARW n c l4 (by omega);have qF:=fun n=>AJ7 n c (fun l hl=>by have:=l4 l hl;omega) (by omega) (by omega);unfold YI at qL;unfold iT at qP;by_cases h0:E3 c=0
 ·rw[if_neg (by simp[h0])]at qL qP;rw[h0]at qF;have hc:=U9 h0;have hfl:=hc.fl;obtain⟨y,hy,hl⟩:=W1 c;have hyR:=zZ hc;rw[hy]at hyR qL;have hyR:=Option.some.inj hyR;rw[Option.getD_some]at qL;have qS:=fun n=>AR3 n c hc;have qR:=fun n=>ADM n c hc (G7 c) (mA hc);rw[<-hyR]at qR;have hyl:y.length<=3:=by have:=RP hl.inc (Nat.zero_le _);omega
  have qi:=fun n=>AOW n y y (by omega);rw[decide_eq_true rfl]at qi;have hcn:=AJL hl;rw[hcn]at qP;clear hl hy hyR hcn;by_cases hy0:y=[]
  ·subst hy0;rw[if_pos (by simp)]at qP;simp only[AD,R4,IJ]at qr qC qL qP qF qS qR|-;simp[dJ]at qL qP qR;simp only[li,List.map_nil]at qi;generalize G7 c=SR at *;simp[c6,AF,qr,qC,qL,qP,qF,qS,qR,qi,AU,BC,AS,U4];done
  ·rw[if_neg (by simp[hy0])]at qP;have e:X0 c c.fams.length 0=((List.range c.fams.length).filter (EP c)).map fun (k:Nat)=>(k:Int):=by rw[rZ,<-List.range_eq_range']
   rw[<-e]at qP;have hRl:(X0 c c.fams.length 0).length<=100:=by rw[e,List.length_map];have:=List.length_filter_le (EP c) (List.range c.fams.length);rw[List.length_range]at this;omega
   obtain⟨γ',c',fr,g1,g5,g6,g10,ql⟩:=AJK c hc (X0 c c.fams.length 0) c.fams.length 0 [] 0 1 (by omega) (by simp);rw[List.nil_append]at g10 ql;have ql1:=ql (n+386) (n+9986) (by omega);rw[show n+386+9600=n+9986 by omega]at ql1;clear ql;have qi2:=fun n=>AOW n (X0 c c.fams.length 0) (X0 c c.fams.length 0) hRl;rw[decide_eq_true rfl]at qi2;have hyn:¬y.length=0:=fun h=>hy0 (bj h);simp only at qP;clear e;generalize X0 c c.fams.length 0=R at *;generalize G7 c=SR at *;simp only[AD,R4,IJ]at qr qC qL qP qF qS qR ql1|-;simp at ql1;cases R with
   |nil=>
    simp[dJ]at qP ql1 g5 g10
    simp only[li,List.map_nil]at qi2
    simp[c6,AF,qr,qC,qL,qP,qF,qS,qR,qi,qi2,ql1,g5,g6,g10,hyn,AU,BC,AS,U4]
    done
   |cons a r=>
    simp[AJ]at qP ql1 g5 g10
    simp only[li,List.map_cons,AJ]at qi2
    simp[c6,AF,qr,qC,qL,qP,qF,qS,qR,qi,qi2,ql1,g5,g6,g10,hyn,AU,BC,AS,U4]
    done
 ·rw[if_pos h0]at qL qP;generalize E3 c=E at *;simp only[AD,R4,IJ]at qr qC qL qP qF|-;simp[dJ]at qL qP;simp[c6,AF,qr,qC,qL,qP,qF,h0,AU,BC,AS,U4]
end Go.Proofs.Tryz.Op
