/- Contracts: play, Play. No condition but a valid beach. -/
import Derived.Test.YthhdhbalenanjaaGreatW3
set_option maxRecDepth 100000
set_option linter.unusedSimpArgs false
open Go Go.Pg Go.Proofs Go.Wind
namespace Go.Wind
end Go.Wind
namespace Go.Proofs.Tryz.Op
@[simp] theorem AUV(l k γ i o:Nat):weakV (.eptr l k γ i o)=.eptr l k γ i o:=rfl
@[simp] theorem ALW(f l k γ i o:Nat):AG (f+1) (.eptr l k γ i o)=false:=rfl
theorem sK(L:AA)(k γ:Nat)(r:AX):AA.put L k γ r=(k,γ,r)::L:=rfl
theorem ALX{j k m:Nat}(h1:j≠m)(h2:k≠m)(γ:Nat)(T:TypeId)(es:List (List V))(x:Nat×AX):(pl j γ T es++[(k,x)]).get m=none:=by cases es<;>simp[h1.symm,h2.symm]
theorem BF2{k:Nat}{x:Int×Int}(h:k<=10000):BZ Tryz.prog 86 k [[i x.1,i x.2]]=true:=by rw[CC (by simp) (by simp)];simp[maxLen];omega
theorem BF3{k:Nat}{x:Int×Int}(h:k<=10000):BZ Tryz.prog 99 k [[i x.1,i x.2]]=true:=by rw[CC (by simp) (by simp)];simp[maxLen];omega
def jA(b:AN)(x y:V):AX:=.box [i b.last,i b.rows,i b.places,i b.reach,li b.face,li b.sun,KC b.winds,x,y]
theorem wO(b:AN)(Z:AX)(hl:b.breaks.length<=100):∀(d k c γ:Nat) (acc:List (Int×Int)),k+d=b.breaks.length->acc.length<=k->2<c->∃c' γ',2<c'/\∀n m,d<m->BT (AF Tryz.prog ann kn (n+400) 68) YH (ann 68 (CA YH)) m ⟨c,[(1,true,.ptr 0 1 0 0),(2,true,.ptr 0 2 1 0),(3,true,.ptr 0 3 2 0),(4,true,i k)],⟨[],(1,0,.box (AC b))::(2,1,Z)::(3,2,jA b (pv 40 γ (acc.map AL)) .nil)::pl 40 γ 86 (acc.map AL)⟩⟩ =
  some (.exit 0,⟨c',[(28,true,.bool false),(27,true,i b.breaks.length),(26,true,.list false (b.breaks.map AL)),(25,true,.ptr 0 1 0 7),(24,true,i b.breaks.length),(1,true,.ptr 0 1 0 0),(2,true,.ptr 0 2 1 0),(3,true,.ptr 0 3 2 0),(4,true,i b.breaks.length)],⟨[],(1,0,.box (AC b))::(2,1,Z)::(3,2,jA b (pv 40 γ' ((acc++b.breaks.drop k).map AL)) .nil)::pl 40 γ' 86 ((acc++b.breaks.drop k).map AL)⟩⟩)
 |0,k,c,γ,acc,hk,ha,hc=>by
  have:k=b.breaks.length:=by omega
  subst this;refine⟨c,γ,hc,fun n m hm=>?_⟩;obtain⟨m,rfl⟩:=qNz m (by omega);rw[List.drop_length,List.append_nil,AB];simp[AC,jA]
 |d+1,k,c,γ,acc,hk,ha,hc=>by
  have hk':k<b.breaks.length:=by omega
  have hw:=CB (k:=k) (by omega);have q:=fun n=>AUP n b.breaks[k];have happ:=BF2 (k:=acc.length) (x:=b.breaks[k]) (by omega);obtain⟨c',γ',h1,ih⟩:=wO b Z hl d (k+1) (c+1) c (acc++[b.breaks[k]]) (by omega) (by simp;omega) (by omega);have hgo:acc++b.breaks.drop k=acc++[b.breaks[k]]++b.breaks.drop (k+1):=by rw[List.drop_eq_getElem_cons hk'];simp
  rw[<-hgo]at ih;refine⟨c',γ',h1,fun n m hm=>?_⟩;obtain⟨m,rfl⟩:=qNz m (by omega);have ih:=ih n m (by omega);have hc2:2<c+1:=by omega
  generalize acc++b.breaks.drop k=fin at ih|-;rw[AB];simp only[AC,jA]at ih|-;simp[AL]at ih q;simp[hk',hw,AL,q,happ,DJ,FE,sK,hc2,ih]
theorem wP(b:AN)(Z:AX)(hl:b.notes.length<=100)(γ0:Nat)(A:List (List V)):∀(d k c γ:Nat) (acc:List (Int×Int)),k+d=b.notes.length->acc.length<=k->2<c->∃c' γ',2<c'/\∀n m,d<m->BT (AF Tryz.prog ann kn (n+400) 68) YI (ann 68 (CA YI)) m ⟨c,[(1,true,.ptr 0 1 0 0),(2,true,.ptr 0 2 1 0),(3,true,.ptr 0 3 2 0),(5,true,i k)],⟨[],(1,0,.box (AC b))::(2,1,Z)::(3,2,jA b (pv 40 γ0 A) (pv 65 γ (acc.map AL)))::(pl 40 γ0 86 A++pl 65 γ 99 (acc.map AL))⟩⟩ =
  some (.exit 2,⟨c',[(46,true,.bool false),(45,true,i b.notes.length),(44,true,.list false (b.notes.map AL)),(43,true,.ptr 0 1 0 8),(42,true,i b.notes.length),(1,true,.ptr 0 1 0 0),(2,true,.ptr 0 2 1 0),(3,true,.ptr 0 3 2 0),(5,true,i b.notes.length)],⟨[],(1,0,.box (AC b))::(2,1,Z)::(3,2,jA b (pv 40 γ0 A) (pv 65 γ' ((acc++b.notes.drop k).map AL)))::(pl 40 γ0 86 A++pl 65 γ' 99 ((acc++b.notes.drop k).map AL))⟩⟩)
 |0,k,c,γ,acc,hk,ha,hc=>by
  have:k=b.notes.length:=by omega
  subst this;refine⟨c,γ,hc,fun n m hm=>?_⟩;obtain⟨m,rfl⟩:=qNz m (by omega);rw[List.drop_length,List.append_nil,AB];simp[AC,jA,rW,rX,rY,XV,XW,iU]
 |d+1,k,c,γ,acc,hk,ha,hc=>by
  have hk':k<b.notes.length:=by omega
  have hw:=CB (k:=k) (by omega);have happ:=BF3 (k:=acc.length) (x:=b.notes[k]) (by omega);obtain⟨c',γ',h1,ih⟩:=wP b Z hl γ0 A d (k+1) (c+1) c (acc++[b.notes[k]]) (by omega) (by simp;omega) (by omega);have hgo:acc++b.notes.drop k=acc++[b.notes[k]]++b.notes.drop (k+1):=by rw[List.drop_eq_getElem_cons hk'];simp
  rw[<-hgo]at ih;refine⟨c',γ',h1,fun n m hm=>?_⟩;obtain⟨m,rfl⟩:=qNz m (by omega);have ih:=ih n m (by omega);have hc2:2<c+1:=by omega
  generalize acc++b.notes.drop k=fin at ih|-;rw[AB];simp only[AC,jA]at ih|-;simp[AL]at ih;simp[hk',hw,AL,happ,DJ,FE,sK,hc2,rW,rX,rY,XV,XW,iU,AK1,ASK,ALX,ih]
theorem fH{f:Nat}{l:List (List V)}(h:AG f (.list false l)=true)(hf:f≠0):AG f (sl l)=true:=by
 cases l with
 |nil=>
  cases f with
  |zero=>exact absurd rfl hf
  |succ f=>rfl
 |cons e es=>exact h
theorem AUW(n:Nat)(b:AN)(hf:b.face.length<=100)(hs:b.sun.length<=100)(hw:b.winds.length<=100)(h1:∀l∈b.winds,l.length<=100)(hb:b.breaks.length<=100)(hn:b.notes.length<=100):BA Tryz.prog kn (AF Tryz.prog ann kn (n+600)) 68 [.agg (AC b)]=some (.agg (FA b)):=by
 rw[AR rfl,AS Tryz.func68 b68 rfl (by simp[AC,AH,AM,AL])];have q1:=fun n=>AGU n b.face hf;have q2:=fun n=>AGU n b.sun hs;have q3:=fun n=>AUO n b.winds hw h1;obtain⟨c1,γ1,g1,r1⟩:=wO b (.box [i 0,i 0,i 0,i 0,.nil,.nil,.nil,.nil,.nil]) hb b.breaks.length 0 3 0 [] (by omega) (by simp) (by omega);have r1:=fun n m=>r1 n (m+200) (by omega);rw[List.drop_zero,List.nil_append]at r1;obtain⟨c2,γ2,g2,r2⟩:=wP b (.box [i 0,i 0,i 0,i 0,.nil,.nil,.nil,.nil,.nil]) hn γ1 (b.breaks.map AL) b.notes.length 0 c1 0 [] (by omega) (by simp) (by omega);have r2:=fun n m=>r2 n (m+200) (by omega);rw[List.drop_zero,List.nil_append]at r2;simp only[AC,FA,jA]at r1 r2|-;simp at r1 r2;have g3:1<c2:=by omega
 simp[c68,AD,AH,AM,q1,q2,q3,r1,r2,sK,g3,rW,rX,rY,XV,XW,iU];rw[P2 (T:=86) 2 _ 40 γ1 _ (by simp[XW]),P2 (T:=99) 2 _ 65 γ2 _ (by simp[XV])];have hcl:∀l:List (Int×Int),AG 8 (sl (l.map AL))=true:=fun l=>fH (by simp[AL]) (by decide);simp[AH,AM,hcl]
end Go.Proofs.Tryz.Op
