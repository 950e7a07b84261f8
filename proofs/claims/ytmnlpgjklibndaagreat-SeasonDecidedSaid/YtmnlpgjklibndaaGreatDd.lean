/- The walk of SeasonPlays: true. No condition. -/
import Derived.Test.YtmnlpgjklibndaaGreatD1
set_option maxRecDepth 100000
set_option linter.unusedSimpArgs false
open Go Go.Pg Go.Proofs Go.Season
namespace Go.Proofs.Tryz.Op
theorem WJ(n:Nat)(d:Option Tmp)(st:XS):K3 (BX Tryz.prog ann kn n) d st 20 []=DM d st (some (.bool true)):=by rw[aK d rfl (by simp)];rfl
def RO(c:BC):Bool:=pP c.book&&(decide (c.wits.length<=6)&&(decide (c.claims.length<=6)&&c.wits.all fun l=>decide (l.length<=6)))
theorem AM6(n:Nat)(c:BC)(hw:c.wits.length<=90):∀(d k m:Nat),k+d=c.wits.length->d<m ->
  BN (AH Tryz.prog ann kn (n+50) 34) YA (ann 34 (CC YA)) m ⟨1,[(1,true,.ptr 0 1 0 0),(3,true,i k)],⟨[],[(1,0,.box (AC c))]⟩⟩ =
   bif (c.wits.drop k).all (fun l=>decide (l.length<=6)) then some (.exit 0,⟨1,[(24,true,.bool false),(23,true,i c.wits.length),(22,true,.list false (c.wits.map AL)),(21,true,.ptr 0 1 0 5),(20,true,i c.wits.length),(1,true,.ptr 0 1 0 0),(3,true,i c.wits.length)],⟨[],[(1,0,.box (AC c))]⟩⟩)
   else some (.ret,⟨1,[(2,true,.bool false)],⟨[],[]⟩⟩)
 |0,k,m+1,hd,hm=>by
  have:k=c.wits.length:=by omega
  subst this;simp[AD,AC]
 |d+1,k,m+1,hd,hm=>by
  have hk:k<c.wits.length:=by omega
  have hwk:=DF (k:=k) (by omega);have ih:=AM6 n c hw d (k+1) m (by omega) (by omega);rw[AD,List.drop_eq_getElem_cons hk];simp only[List.all_cons];generalize e:decide (c.wits[k].length<=6)=b;have e':decide ((6:Int)<(c.wits[k].length:Int))=!b:=by rw[<-e];exact JZ (by omega)
  simp only[AC]at ih|-;try simp at ih
  cases b<;>simp[hk,hwk,AL,AB,e',ih]
theorem rL(n:Nat)(c:BC):AW Tryz.prog kn (AH Tryz.prog ann kn (n+600)) 19 [.agg (AC c)]=some (.bool (RO c)):=by
 rw[AO rfl,AP Tryz.func19 b19 rfl (by simp[AC,AB,AM,AG,AL])];have qT:=fun n=>k19 n c.book;unfold RO;simp only[AE]at qT;generalize pP c.book=t at qT|-;generalize e1:decide (c.wits.length<=6)=b1;have e1':decide ((6:Int)<(c.wits.length:Int))=!b1:=by rw[<-e1];exact JZ (by omega)
 generalize e2:decide (c.claims.length<=6)=b2;have e2':decide ((6:Int)<(c.claims.length:Int))=!b2:=by rw[<-e2];exact JZ (by omega)
 cases t with
 |false=>simp[c19,AJ,AC,qT,AB,AM,AG,AL]
 |true=>
  cases b1 with
  |false=>simp[c19,AJ,AC,qT,e1',AB,AM,AG,AL]
  |true=>
   cases b2 with
   |false=>simp[c19,AJ,AC,qT,e1',e2',AB,AM,AG,AL]
   |true=>
    have hw:c.wits.length<=6:=by simpa using e1
    have q:=AM6 (n+544) c (by omega) c.wits.length 0 (n+594) (by omega) (by omega)
    simp only[List.drop_zero,Nat.add_assoc,Nat.reduceAdd,Int.natCast_zero]at q
    generalize (c.wits.all fun l=>decide (l.length<=6))=b3 at q|-
    simp only[AC]at q
    cases b3<;>(try simp at q)<;>simp[c19,AJ,AC,qT,e1',e2',q,AB,AM,AG,AL]
theorem fR(n:Nat)(c:BC)(hc:c.claims.length<=90)(hw:c.wits.length<=90)(hx:∀l∈c.wits,l.length<=90):AW Tryz.prog kn (AH Tryz.prog ann kn (n+5200)) 25 [.agg (AC c)]=some (i (CB c)):=by rw[AO rfl,AP Tryz.func25 b25 rfl (by simp[AC,AB,AM,AG,AL])];have q:=fun n=>vP n c hc hw hx;simp only[AC]at q|-;simp[c25,AJ,q,AB,AM,AG,AL]
theorem LJ{c:BC}(h:RO c=true):c.book.lines.length<=10/\c.book.counts.length<=6/\c.wits.length<=6/\c.claims.length<=6/\∀l∈c.wits,l.length<=6:=by simp only[RO,pP,Bool.and_eq_true,decide_eq_true_eq]at h;exact⟨h.1.1,h.1.2.1,h.2.1,h.2.2.1,fun l hl=>by simpa using List.all_eq_true.1 h.2.2.2 l hl⟩
end Go.Proofs.Tryz.Op
