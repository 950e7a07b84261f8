/- The walk of SeasonPlays: true. No condition. -/
import Derived.Test.YtmnlpgjklibndaaGreatD1
set_option maxRecDepth 100000
set_option linter.unusedSimpArgs false
open Go Go.Pg Go.Proofs Go.Season
namespace Go.Proofs.Tryz.Op
theorem AEZ(n:Nat)(d:Option Tmp)(st:XS):ME (BR Tryz.prog ann kn n) d st 20 []=DA d st (some (.bool true)):=by rw[YH d rfl (by simp)];rfl
def VY(c:BL):Bool:=lV c.book&&(decide (c.wits.length<=6)&&(decide (c.claims.length<=6)&&c.wits.all fun l=>decide (l.length<=6)))
theorem AI6(n:Nat)(c:BL)(hw:c.wits.length<=90):∀(d k m:Nat),k+d=c.wits.length->d<m ->
  BS (AG Tryz.prog ann kn (n+50) 34) WA (ann 34 (CP WA)) m ⟨1,[(1,true,.ptr 0 1 0 0),(3,true,i k)],⟨[],[(1,0,.box (AF c))]⟩⟩ =
   bif (c.wits.drop k).all (fun l=>decide (l.length<=6)) then some (.exit 0,⟨1,[(24,true,.bool false),(23,true,i c.wits.length),(22,true,.list false (c.wits.map AO)),(21,true,.ptr 0 1 0 5),(20,true,i c.wits.length),(1,true,.ptr 0 1 0 0),(3,true,i c.wits.length)],⟨[],[(1,0,.box (AF c))]⟩⟩)
   else some (.ret,⟨1,[(2,true,.bool false)],⟨[],[]⟩⟩)
 |0,k,m+1,hd,hm=>by
  have:k=c.wits.length:=by omega
  subst this;simp[AD,AF]
 |d+1,k,m+1,hd,hm=>by
  have hk:k<c.wits.length:=by omega
  have hwk:=FO (k:=k) (by omega);have ih:=AI6 n c hw d (k+1) m (by omega) (by omega);rw[AD,List.drop_eq_getElem_cons hk];simp only[List.all_cons];generalize e:decide (c.wits[k].length<=6)=b;have e':decide ((6:Int)<(c.wits[k].length:Int))=!b:=by rw[<-e];exact I2 (by omega)
  simp only[AF]at ih|-;try simp at ih
  cases b<;>simp[hk,hwk,AO,AB,e',ih]
theorem AL8(n:Nat)(c:BL):A5 Tryz.prog kn (AG Tryz.prog ann kn (n+600)) 19 [.agg (AF c)]=some (.bool (VY c)):=by
 rw[AQ rfl,AR Tryz.func19 b19 rfl (by simp[AF,AB,AM,AL,AO])];have qT:=fun n=>k19 n c.book;unfold VY;simp only[AC]at qT;generalize lV c.book=t at qT|-;generalize e1:decide (c.wits.length<=6)=b1;have e1':decide ((6:Int)<(c.wits.length:Int))=!b1:=by rw[<-e1];exact I2 (by omega)
 generalize e2:decide (c.claims.length<=6)=b2;have e2':decide ((6:Int)<(c.claims.length:Int))=!b2:=by rw[<-e2];exact I2 (by omega)
 cases t with
 |false=>simp[c19,AH,AF,qT,AB,AM,AL,AO]
 |true=>
  cases b1 with
  |false=>simp[c19,AH,AF,qT,e1',AB,AM,AL,AO]
  |true=>
   cases b2 with
   |false=>simp[c19,AH,AF,qT,e1',e2',AB,AM,AL,AO]
   |true=>
    have hw:c.wits.length<=6:=by simpa using e1
    have q:=AI6 (n+544) c (by omega) c.wits.length 0 (n+594) (by omega) (by omega)
    simp only[List.drop_zero,Nat.add_assoc,Nat.reduceAdd,Int.natCast_zero]at q
    generalize (c.wits.all fun l=>decide (l.length<=6))=b3 at q|-
    simp only[AF]at q
    cases b3<;>(try simp at q)<;>simp[c19,AH,AF,qT,e1',e2',q,AB,AM,AL,AO]
theorem Z6{c:BL}(h:VY c=true):c.book.lines.length<=10/\c.book.counts.length<=6/\c.wits.length<=6/\c.claims.length<=6/\∀l∈c.wits,l.length<=6:=by simp only[VY,lV,Bool.and_eq_true,decide_eq_true_eq]at h;exact⟨h.1.1,h.1.2.1,h.2.1,h.2.2.1,fun l hl=>by simpa using List.all_eq_true.1 h.2.2.2 l hl⟩
end Go.Proofs.Tryz.Op
