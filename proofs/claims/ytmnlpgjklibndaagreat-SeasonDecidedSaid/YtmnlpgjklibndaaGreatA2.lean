/- The plain law of season's reference: its truths are the program's, its verdicts and its least number too. No condition. -/
import Derived.Test.YtmnlpgjklibndaaGreatE4
import Derived.Test.YtmnlpgjklibndaaGreatL2
open List renaming mem_filter->bj,all_eq_true->bq,drop_eq_getElem_cons->bw,countP_eq_length->bx,length_filter_le->bz,countP_eq_zero->bc
set_option maxRecDepth 100000
set_option linter.unusedSimpArgs false
open Go Go.Pg Go.Proofs Go.Season
namespace Go.Proofs.Tryz.Op
@[simp] theorem BL7(f:Nat)(L:List AF):L.all ((fun e=>e.all (AK (f+1)))∘AB)=true:=bq.2 fun t _=>by simp[AB]
@[simp] theorem BL8(f:Nat)(L:List FK):L.all ((fun e=>e.all (AK (f+1)))∘AM)=true:=bq.2 fun t _=>by simp[AM]
@[simp] theorem BL9(f:Nat)(L:List Wrd):L.all ((fun e=>e.all (AK (f+1)))∘AG)=true:=bq.2 fun t _=>by simp[AG]
@[simp] theorem BMA(f:Nat)(L:List (List Wrd)):L.all ((fun e=>e.all (AK (f+2)))∘AL)=true:=bq.2 fun t _=>by simp[AL,AG]
@[simp] theorem BMB(f:Nat)(L:List (List AF)):L.all ((fun e=>e.all (AK (f+2)))∘BK)=true:=bq.2 fun t _=>by simp[BK,AB]
theorem nb8:Nat.beq 8 1=false:=rfl
theorem nb4:Nat.beq 4 1=false:=rfl
theorem U8{φ ψ:List AF->Bool}:∀{S:List (List AF)},(∀s∈S,φ s=ψ s)->ER φ S=ER ψ S
 |[],_=>rfl
 |s::S,h=>by
  have hne:s::S≠[]:=by simp
  rcases EU φ hne with k|k|k
  ·exact k.trans ((DX (φ:=ψ) hne).2 fun t ht=>(h t ht).symm.trans ((DX hne).1 k t ht)).symm
  ·exact k.trans ((DY (φ:=ψ) hne).2 fun t ht=>(h t ht).symm.trans ((DY hne).1 k t ht)).symm
  ·rcases EU ψ hne with m|m|m
   ·have:=(DX (φ:=φ) hne).2 fun t ht=>(h t ht).trans ((DX hne).1 m t ht);omega
   ·have:=(DY (φ:=φ) hne).2 fun t ht=>(h t ht).trans ((DY hne).1 m t ht);omega
   ·exact k.trans m.symm
theorem J1(w:Wrd)(S:List (List AF)):BO w S=ER (fun ls=>BI ls w) S:=by unfold BO;exact U8 fun s _=>by simp
def HA(c:BC):List (List AF):=(DZ c.book).filter fun s=>decide (DO c s<=c.liars)
theorem MH{c:BC}(ok:QE c){s:List AF}:s∈HA c↔s∈AR c:=by unfold HA;rw[bj,JC ok.fault,kX,N7 ok.fault];simp
theorem PB{c:BC}(ok:QE c):HA c=[]↔AR c=[]:=by
 constructor
 ·intro h;cases e:AR c with
  |nil=>rfl
  |cons x X=>have:=(MH ok).2 (show x∈AR c by rw[e];simp);rw[h]at this;cases this
 ·intro h;cases e:HA c with
  |nil=>rfl
  |cons x X=>have:=(MH ok).1 (show x∈HA c by rw[e];simp);rw[h]at this;cases this
theorem XO(φ:List AF->Bool){L:List (List AF)}(hne:L≠[]):uZ (L.length:Nat) (L.countP φ:Nat)=ER φ L:=by
 have hl:0<L.length:=List.length_pos_iff.2 hne;unfold uZ;rcases EU φ hne with h|h|h
 ·have e:L.countP φ=L.length:=bx.2 ((DX hne).1 h);rw[h,e,if_pos rfl]
 ·have e:L.countP φ=0:=bc.2 fun s hs=>by simp[(DY hne).1 h s hs]
  rw[h,e,if_neg (by omega),if_pos (by simp)]
 ·have e1:L.countP φ≠L.length:=fun e=>by have:=(DX hne).2 (bx.1 e);omega
  have e2:L.countP φ≠0:=fun e=>by
   have:=(DY hne).2 fun s hs=>by simpa using bc.1 e s hs
   omega
  rw[h,if_neg (by omega),if_neg (by omega)]
theorem AB3{c:BC}(ok:QE c)(hne:AR c≠[])(φ:List AF->Bool):uZ ((HA c).length:Nat) ((HA c).countP φ:Nat)=ER φ (AR c):=by have h1:HA c≠[]:=fun e=>hne ((PB ok).1 e);rw[XO φ h1];exact(lD fun s=>MH ok).symm
theorem AB4(c:BC){l l':List (List AF)}(h:∀s,s∈l↔s∈l')(v:Int):runL (D5 c) v l=runL (D5 c) v l':=by
 obtain⟨a1,a2,a3⟩:=AQY c l v;obtain⟨b1,b2,b3⟩:=AQY c l' v;have h1:runL (D5 c) v l'<=runL (D5 c) v l:=by
  rcases a3 with e|⟨s,hs,e⟩
  ·omega
  ·have:=b2 s ((h s).1 hs);omega
 have h2:runL (D5 c) v l<=runL (D5 c) v l':=by
  rcases b3 with e|⟨s,hs,e⟩
  ·omega
  ·have:=a2 s ((h s).2 hs);omega
 omega
def AB5(c:BC):Int:=runL (D5 c) (c.wits.length:Int) (DZ c.book)
theorem yG{c:BC}(ok:QE c):AB5 c=N6 c :=
 AB4 c (fun s=>by rw[JC ok.fault,N7 ok.fault]) _
theorem MI{c:BC}(ok:QE c):(∀t∈DZ c.book,t.length=c.book.lines.length)/\(DZ c.book).length<=4096:=by refine⟨fun t ht=>J5 (MK ((N7 ok.fault).2 ((JC ok.fault).1 ht))),?_⟩;obtain⟨h1,h4,hl8,hc4,hc1,hc2,hx1,hx2,hok,hcok,hm⟩:=F8 ok.fault;unfold DZ O2;refine Nat.le_trans (bz _ _) ?_;simp;omega
theorem fP{c:BC}(ok:QE c):(∀t∈HA c,t.length=c.book.lines.length)/\(HA c).length<=4096:=by exact⟨fun t ht=>IV ((MH ok).1 ht),Nat.le_trans (bz _ _) (MI ok).2⟩
theorem AMU(n:Nat)(A B:List Int)(hA:A.length<=100)(hl:A.length=B.length):∀(d k m:Nat),k+d=A.length->d<m ->
  ∃fr,BN (AH Tryz.prog ann kn (n+50) 26) YH (ann 26 (CC YH)) m ⟨0,[(0,true,.list false (A.map BM)),(1,true,.list false (B.map BM)),(5,true,i k)],⟨[],[]⟩⟩ =
   bif decide (A.drop k=B.drop k) then some (.exit 0,⟨0,fr,⟨[],[]⟩⟩)
   else some (.ret,⟨0,[(4,true,.bool false)],⟨[],[]⟩⟩)
 |0,k,m+1,hd,hm=>by
  have:k=A.length:=by omega
  subst this;have e:A.drop A.length=B.drop A.length:=by rw[hl];simp[<-hl]
  refine⟨?_,?g⟩;case g=>
   rw[e]
   simp[AD]
   rfl
 |d+1,k,m+1,hd,hm=>by
  have hk:k<A.length:=by omega
  have hb:k<B.length:=by omega
  have hwk:=DF (k:=k) (by omega);obtain⟨fr,ih⟩:=AMU n A B hA hl d (k+1) m (by omega) (by omega);refine⟨fr,?_⟩;rw[AD,bw hk,bw hb];simp only[List.cons.injEq];generalize e1:decide (A[k]=B[k])=b1;have e1':(!decide (A[k]=B[k]))=!b1:=by rw[e1]
  have e2:decide (A[k]=B[k]/\A.drop (k+1)=B.drop (k+1))=(b1&&decide (A.drop (k+1)=B.drop (k+1))):=by rw[<-e1,Bool.decide_and]
  rw[e2];try simp at ih
  cases b1<;>simp[hk,hb,hwk,BM,US,e1',ih]
theorem AB6(n:Nat)(A B:List Int)(hA:A.length<=100)(_hB:B.length<=100):AW Tryz.prog kn (AH Tryz.prog ann kn (n+300)) 40 [.list false (A.map BM),.list false (B.map BM)]=some (.bool (decide (A=B))):=by
 rw[AO rfl,AP Tryz.func40 b40 rfl (by simp[BM])];by_cases hl:A.length=B.length
 ·obtain⟨fr,q⟩:=AMU (n+244) A B hA hl A.length 0 (n+294) (by omega) (by omega);simp only[List.drop_zero,Nat.add_assoc,Nat.reduceAdd,Int.natCast_zero]at q;generalize decide (A=B)=b at q|-;cases b<;>(try simp at q)<;>simp[c40,AJ,hl,q]
 ·have hd:decide (A=B)=false:=by simpa using fun e:A=B=>hl (by rw[e])
  have hl':¬(A.length:Int)=(B.length:Int):=by omega
  rw[hd];simp[c40,AJ,hl']
theorem AB7(s:List AF)(w:Wrd):BI s { w with out:=!w.out }=!BI s w:=by unfold BI;simp only;generalize TW w.tok w.num ((s.map AB).take w.after.toNat) false=a;cases a<;>cases w.out<;>rfl
def bT(v:Int)(b:Bool):Int:=if b=true/\v≠3 then 3-v else v
theorem yH{φ:List AF->Bool}{S:List (List AF)}(hne:S≠[]):ER (fun s=>!φ s) S=bT (ER φ S) true:=by
 rcases EU φ hne with h|h|h
 ·rw[h];exact(DY hne).2 fun s hs=>by simp[(DX hne).1 h s hs]
 ·rw[h];exact(DX hne).2 fun s hs=>by simp[(DY hne).1 h s hs]
 ·rw[h];rcases EU (fun s=>!φ s) hne with k|k|k
  ·have:=(DY hne).2 fun s hs=>by simpa using(DX hne).1 k s hs
   omega
  ·have:=(DX hne).2 fun s hs=>by simpa using(DY hne).1 k s hs
   omega
  ·rw[k];rfl
theorem TP{w:Wrd}{S:List (List AF)}(hne:S≠[]):BO { w with out:=!w.out } S=bT (BO w S) true:=by rw[J1,J1,<-yH hne];exact U8 fun s _=>AB7 s w
def FA(S:List (List AF))(l:List Wrd):List (List AF):=S.filter fun s=>l.all (BI s)
def IC(S:List (List AF))(w:Wrd)(l:List Wrd):Bool:=!decide (FA S l=[])&&decide (BO w (FA S l)≠3)
def D4(S:List (List AF))(w:Wrd):Nat->List (List Wrd)->List Int
 |_,[]=>[]
 |k,l::r=>if IC S w l=true then(k:Int)::D4 S w (k+1) r else D4 S w (k+1) r
def FN(S:List (List AF))(w:Wrd)(W:List (List Wrd)):List Int:=if BO w S=3 then D4 S w 0 W else[]
theorem TQ{S:List (List AF)}{w:Wrd}:∀(W:List (List Wrd)) (k:Nat) (x:Int),x∈D4 S w k W->∃j,∃h:j<W.length,x=((k+j:Nat):Int)/\IC S w W[j]=true
 |[],k,x,h=>by cases h
 |l::r,k,x,h=>by
  unfold D4 at h;split at h
  ·rename_i hd;rcases List.mem_cons.1 h with e|h
   ·exact⟨0,by simp,by simpa using e,hd⟩
   ·obtain⟨j,h1,h2,h3⟩:=TQ r (k+1) x h;exact⟨j+1,by simpa using h1,by rw[h2];congr 1;omega,h3⟩
  ·obtain⟨j,h1,h2,h3⟩:=TQ r (k+1) x h;exact⟨j+1,by simpa using h1,by rw[h2];congr 1;omega,h3⟩
theorem cW{S:List (List AF)}{w:Wrd}:∀(W:List (List Wrd)) (k:Nat),(D4 S w k W).length<=W.length
 |[],k=>Nat.le_refl _
 |l::r,k=>by have:=cW (S:=S) (w:=w) r (k+1);unfold D4;split<;>simp<;>omega
theorem XP{S:List (List AF)}{w:Wrd}(W:List (List Wrd)):(FN S w W).length<=W.length:=by
 unfold FN;split
 ·exact cW W 0
 ·simp
theorem vB{S S':List (List AF)}(h:∀s,s∈S↔s∈S')(l:List Wrd):∀s,s∈FA S l↔s∈FA S' l:=fun s=>by unfold FA;rw[bj,bj,h s]
theorem AIQ{S S':List (List AF)}(h:∀s,s∈S↔s∈S'):S=[]↔S'=[]:=by
 constructor
 ·intro e;cases e2:S' with
  |nil=>rfl
  |cons x X=>have:=(h x).2 (by rw[e2];simp);rw[e]at this;cases this
 ·intro e;cases e2:S with
  |nil=>rfl
  |cons x X=>have:=(h x).1 (by rw[e2];simp);rw[e]at this;cases this
theorem cX{S S':List (List AF)}(h:∀s,s∈S↔s∈S')(w:Wrd):BO w S'=BO w S:=lD h
theorem AB8{S S':List (List AF)}(h:∀s,s∈S↔s∈S')(w:Wrd)(l:List Wrd):IC S' w l=IC S w l:=by unfold IC;have e:decide (FA S' l=[])=decide (FA S l=[]):=decide_eq_decide.2 (AIQ (vB h l)).symm;rw[e,cX (vB h l) w]
theorem A13{v:Int}(h:v=1\/v=2\/v=3):bT v true=3↔v=3:=by rcases h with rfl|rfl|rfl<;>simp[bT]
theorem AB9{S:List (List AF)}{w:Wrd}{l:List Wrd}:IC S { w with out:=!w.out } l=IC S w l:=by
 unfold IC;by_cases h:FA S l=[]
 ·simp[h]
 ·rw[TP h];have:=A13 (EU (fun ls=>[w].all (BI ls)) h);have e:decide (bT (BO w (FA S l)) true≠3)=decide (BO w (FA S l)≠3):=decide_eq_decide.2 (not_congr this);rw[e]
theorem cY{S:List (List AF)}{w:Wrd}:∀(W:List (List Wrd)) (k:Nat),D4 S { w with out:=!w.out } k W=D4 S w k W
 |[],_=>rfl
 |l::r,k=>by unfold D4;rw[AB9,cY r (k+1)]
theorem ACA{S:List (List AF)}(hne:S≠[]){w:Wrd}(W:List (List Wrd)):FN S { w with out:=!w.out } W=FN S w W:=by
 unfold FN;rw[TP hne,cY];have this:bT (BO w S) true=3↔BO w S=3:=A13 (EU (fun ls=>[w].all (BI ls)) hne);by_cases h:BO w S=3
 ·rw[if_pos h,if_pos (this.2 h)]
 ·rw[if_neg h,if_neg (fun e=>h (this.1 e))]
theorem kF{S:List (List AF)}{w:Wrd}{l:List Wrd}(hne:S≠[])(h3:BO w S=3)(hd:IC S w l=true):JR l S=3:=by
 simp only[IC,Bool.and_eq_true,Bool.not_eq_true',decide_eq_false_iff_not,decide_eq_true_eq]at hd;obtain⟨h1,h2⟩:=hd;obtain⟨s,hs⟩:=List.exists_mem_of_ne_nil _ h1;obtain⟨hs1,hs2⟩:=bj.1 hs;rcases EU (fun ls=>!l.all (BI ls)) hne with h|h|h
 ·have:=(DX hne).1 h s hs1;rw[hs2]at this;cases this
 ·have e:FA S l=S:=List.filter_eq_self.2 fun s hs=>by simpa using(DY hne).1 h s hs
  rw[e]at h2;exact absurd h3 h2
 ·exact h
theorem ACB{S:List (List AF)}{w:Wrd}{l:List Wrd}(hd:IC S w l=true){s t:List AF}(hs:s∈S)(ht:t∈S)(h1:l.all (BI s)=true)(h2:l.all (BI t)=true):BI s w=BI t w:=by
 simp only[IC,Bool.and_eq_true,Bool.not_eq_true',decide_eq_false_iff_not,decide_eq_true_eq]at hd;obtain⟨h3,h4⟩:=hd;have m1:s∈FA S l:=bj.2 ⟨hs,h1⟩;have m2:t∈FA S l:=bj.2 ⟨ht,h2⟩;rw[J1]at h4;rcases EU (fun ls=>BI ls w) h3 with h|h|h
 ·have:=(DX h3).1 h;rw[this s m1,this t m2]
 ·have:=(DY h3).1 h;rw[this s m1,this t m2]
 ·exact absurd h h4
end Go.Proofs.Tryz.Op
