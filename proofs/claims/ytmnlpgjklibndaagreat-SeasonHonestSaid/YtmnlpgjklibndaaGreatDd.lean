/- The walk of SeasonPlays: true. No condition. -/
import Derived.Test.YtmnlpgjklibndaaGreatD1
set_option maxRecDepth 100000
set_option linter.unusedSimpArgs false
open Go Go.Pg Go.Proofs Go.Season
namespace Go.Proofs.Tryz.Op
theorem dT(n:Nat)(d:Option Tmp)(st:XS):MU (BS Tryz.prog ann kn n) d st 20 []=DH d st (some (.bool true)):=by rw[ZC d rfl (by simp)];rfl
def WQ(c:BF):Bool:=nL c.book&&(decide (c.wits.length<=6)&&(decide (c.claims.length<=6)&&c.wits.all fun l=>decide (l.length<=6)))
theorem AKI(n:Nat)(c:BF)(hw:c.wits.length<=90):∀(d k m:Nat),k+d=c.wits.length->d<m ->
  BR (AG Tryz.prog ann kn (n+50) 34) W3 (ann 34 (CU W3)) m ⟨1,[(1,true,.ptr 0 1 0 0),(3,true,i k)],⟨[],[(1,0,.box (AD c))]⟩⟩ =
   bif (c.wits.drop k).all (fun l=>decide (l.length<=6)) then some (.exit 0,⟨1,[(24,true,.bool false),(23,true,i c.wits.length),(22,true,.list false (c.wits.map AM)),(21,true,.ptr 0 1 0 5),(20,true,i c.wits.length),(1,true,.ptr 0 1 0 0),(3,true,i c.wits.length)],⟨[],[(1,0,.box (AD c))]⟩⟩)
   else some (.ret,⟨1,[(2,true,.bool false)],⟨[],[]⟩⟩)
 |0,k,m+1,hd,hm=>by
  have:k=c.wits.length:=by omega
  subst this;simp[AE,AD]
 |d+1,k,m+1,hd,hm=>by
  have hk:k<c.wits.length:=by omega
  have hwk:=FB (k:=k) (by omega);have ih:=AKI n c hw d (k+1) m (by omega) (by omega);rw[AE,List.drop_eq_getElem_cons hk];simp only[List.all_cons];generalize e:decide (c.wits[k].length<=6)=b;have e':decide ((6:Int)<(c.wits[k].length:Int))=!b:=by rw[<-e];exact JE (by omega)
  simp only[AD]at ih|-;try simp at ih
  cases b<;>simp[hk,hwk,AM,AB,e',ih]
theorem ANU(n:Nat)(c:BF):A4 Tryz.prog kn (AG Tryz.prog ann kn (n+600)) 19 [.agg (AD c)]=some (.bool (WQ c)):=by
 rw[AP rfl,AQ Tryz.func19 b19 rfl (by simp[AD,AB,AN,AJ,AM])];have qT:=fun n=>k19 n c.book;unfold WQ;simp only[AC]at qT;generalize nL c.book=t at qT|-;generalize e1:decide (c.wits.length<=6)=b1;have e1':decide ((6:Int)<(c.wits.length:Int))=!b1:=by rw[<-e1];exact JE (by omega)
 generalize e2:decide (c.claims.length<=6)=b2;have e2':decide ((6:Int)<(c.claims.length:Int))=!b2:=by rw[<-e2];exact JE (by omega)
 cases t with
 |false=>simp[c19,AH,AD,qT,AB,AN,AJ,AM]
 |true=>
  cases b1 with
  |false=>simp[c19,AH,AD,qT,e1',AB,AN,AJ,AM]
  |true=>
   cases b2 with
   |false=>simp[c19,AH,AD,qT,e1',e2',AB,AN,AJ,AM]
   |true=>
    have hw:c.wits.length<=6:=by simpa using e1
    have q:=AKI (n+544) c (by omega) c.wits.length 0 (n+594) (by omega) (by omega)
    simp only[List.drop_zero,Nat.add_assoc,Nat.reduceAdd,Int.natCast_zero]at q
    generalize (c.wits.all fun l=>decide (l.length<=6))=b3 at q|-
    simp only[AD]at q
    cases b3<;>(try simp at q)<;>simp[c19,AH,AD,qT,e1',e2',q,AB,AN,AJ,AM]
theorem HX{c:BF}(h:WQ c=true):c.book.lines.length<=10/\c.book.counts.length<=6/\c.wits.length<=6/\c.claims.length<=6/\∀l∈c.wits,l.length<=6:=by simp only[WQ,nL,Bool.and_eq_true,decide_eq_true_eq]at h;exact⟨h.1.1,h.1.2.1,h.2.1,h.2.2.1,fun l hl=>by simpa using List.all_eq_true.1 h.2.2.2 l hl⟩
end Go.Proofs.Tryz.Op
