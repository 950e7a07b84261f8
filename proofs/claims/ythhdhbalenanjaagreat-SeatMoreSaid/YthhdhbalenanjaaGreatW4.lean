/- Contracts: play, Play. No condition but a valid beach. -/
import Derived.Test.YthhdhbalenanjaaGreatW3
set_option maxRecDepth 100000
set_option linter.unusedSimpArgs false
open Go Go.Pg Go.Proofs Go.Wind
namespace Go.Wind
end Go.Wind
namespace Go.Proofs.Tryz.Op
@[simp] theorem AZN(l k γ i o:Nat):weakV (.eptr l k γ i o)=.eptr l k γ i o:=rfl
@[simp] theorem APS(f l k γ i o:Nat):AG (f+1) (.eptr l k γ i o)=false:=rfl
theorem eX(L:AA)(k γ:Nat)(r:AZ):AA.put L k γ r=(k,γ,r)::L:=rfl
theorem AZO(calm lit:Nat->Bool)(n:Nat):0<=(I2 calm lit n).sun/\(I2 calm lit n).sun<=n/\0<=(I2 calm lit n).calm/\(I2 calm lit n).calm<=n/\0<=(I2 calm lit n).good/\(I2 calm lit n).good<=n:=by have h1:=PC lit n;have h2:=PC calm n;have h3:=PC (fun h=>lit h&&calm h) n;simp only[I2];omega
def M5(l:List fN):List V:=[.list false (l.map GH)]
def mK(b:AM)(plan:List (List Int))(t:List Int)(r:Nat):List fN:=(List.range b.places.toNat).map (CL b plan t r)
def V6(b:AM)(plan:List (List Int))(t:List Int)(n:Nat):List (List fN):=(List.range n).map (mK b plan t)
theorem APT{j k m:Nat}(h1:j≠m)(h2:k≠m)(γ:Nat)(T:TypeId)(es:List (List V))(x:Nat×AZ):(pl j γ T es++[(k,x)]).get m=none:=by cases es<;>simp[h1.symm,h2.symm]
theorem BL3{k:Nat}{x:Int×Int}(h:k<=10000):B5 Tryz.prog 86 k [[i x.1,i x.2]]=true:=by rw[B9 (by simp) (by simp)];simp[maxLen];omega
theorem BL4{k:Nat}{x:Int×Int}(h:k<=10000):B5 Tryz.prog 99 k [[i x.1,i x.2]]=true:=by rw[B9 (by simp) (by simp)];simp[maxLen];omega
def mL(b:AM)(x y:V):AZ:=.box [i b.last,i b.rows,i b.places,i b.reach,li b.face,li b.sun,HU b.winds,x,y]
theorem AA0(b:AM)(Z:AZ)(hl:b.breaks.length<=100):∀(d k c γ:Nat) (acc:List (Int×Int)),k+d=b.breaks.length->acc.length<=k->2<c->∃c' γ',2<c'/\∀n m,d<m->BI (AE Tryz.prog ann kn (n+400) 68) aA (ann 68 (BZ aA)) m ⟨c,[(1,true,.ptr 0 1 0 0),(2,true,.ptr 0 2 1 0),(3,true,.ptr 0 3 2 0),(4,true,i k)],⟨[],(1,0,.box (AC b))::(2,1,Z)::(3,2,mL b (pv 40 γ (acc.map AJ)) .nil)::pl 40 γ 86 (acc.map AJ)⟩⟩ =
  some (.exit 0,⟨c',[(28,true,.bool false),(27,true,i b.breaks.length),(26,true,.list false (b.breaks.map AJ)),(25,true,.ptr 0 1 0 7),(24,true,i b.breaks.length),(1,true,.ptr 0 1 0 0),(2,true,.ptr 0 2 1 0),(3,true,.ptr 0 3 2 0),(4,true,i b.breaks.length)],⟨[],(1,0,.box (AC b))::(2,1,Z)::(3,2,mL b (pv 40 γ' ((acc++b.breaks.drop k).map AJ)) .nil)::pl 40 γ' 86 ((acc++b.breaks.drop k).map AJ)⟩⟩)
 |0,k,c,γ,acc,hk,ha,hc=>by
  have:k=b.breaks.length:=by omega
  subst this;refine⟨c,γ,hc,fun n m hm=>?_⟩;obtain⟨m,rfl⟩:=qNz m (by omega);rw[List.drop_length,List.append_nil,AB];simp[AC,mL]
 |d+1,k,c,γ,acc,hk,ha,hc=>by
  have hk':k<b.breaks.length:=by omega
  have hw:=BS (k:=k) (by omega);have q:=fun n=>AZG n b.breaks[k];have happ:=BL3 (k:=acc.length) (x:=b.breaks[k]) (by omega);obtain⟨c',γ',h1,ih⟩:=AA0 b Z hl d (k+1) (c+1) c (acc++[b.breaks[k]]) (by omega) (by simp;omega) (by omega);have hgo:acc++b.breaks.drop k=acc++[b.breaks[k]]++b.breaks.drop (k+1):=by rw[List.drop_eq_getElem_cons hk'];simp
  rw[<-hgo]at ih;refine⟨c',γ',h1,fun n m hm=>?_⟩;obtain⟨m,rfl⟩:=qNz m (by omega);have ih:=ih n m (by omega);have hc2:2<c+1:=by omega
  generalize acc++b.breaks.drop k=fin at ih|-;rw[AB];simp only[AC,mL]at ih|-;simp[AJ]at ih q;simp[hk',hw,AJ,q,happ,DB,GU,eX,hc2,ih]
theorem AA1(b:AM)(Z:AZ)(hl:b.notes.length<=100)(γ0:Nat)(A:List (List V)):∀(d k c γ:Nat) (acc:List (Int×Int)),k+d=b.notes.length->acc.length<=k->2<c->∃c' γ',2<c'/\∀n m,d<m->BI (AE Tryz.prog ann kn (n+400) 68) aB (ann 68 (BZ aB)) m ⟨c,[(1,true,.ptr 0 1 0 0),(2,true,.ptr 0 2 1 0),(3,true,.ptr 0 3 2 0),(5,true,i k)],⟨[],(1,0,.box (AC b))::(2,1,Z)::(3,2,mL b (pv 40 γ0 A) (pv 65 γ (acc.map AJ)))::(pl 40 γ0 86 A++pl 65 γ 99 (acc.map AJ))⟩⟩ =
  some (.exit 2,⟨c',[(46,true,.bool false),(45,true,i b.notes.length),(44,true,.list false (b.notes.map AJ)),(43,true,.ptr 0 1 0 8),(42,true,i b.notes.length),(1,true,.ptr 0 1 0 0),(2,true,.ptr 0 2 1 0),(3,true,.ptr 0 3 2 0),(5,true,i b.notes.length)],⟨[],(1,0,.box (AC b))::(2,1,Z)::(3,2,mL b (pv 40 γ0 A) (pv 65 γ' ((acc++b.notes.drop k).map AJ)))::(pl 40 γ0 86 A++pl 65 γ' 99 ((acc++b.notes.drop k).map AJ))⟩⟩)
 |0,k,c,γ,acc,hk,ha,hc=>by
  have:k=b.notes.length:=by omega
  subst this;refine⟨c,γ,hc,fun n m hm=>?_⟩;obtain⟨m,rfl⟩:=qNz m (by omega);rw[List.drop_length,List.append_nil,AB];simp[AC,mL,K3,K4,K5,HD,HE,IH]
 |d+1,k,c,γ,acc,hk,ha,hc=>by
  have hk':k<b.notes.length:=by omega
  have hw:=BS (k:=k) (by omega);have happ:=BL4 (k:=acc.length) (x:=b.notes[k]) (by omega);obtain⟨c',γ',h1,ih⟩:=AA1 b Z hl γ0 A d (k+1) (c+1) c (acc++[b.notes[k]]) (by omega) (by simp;omega) (by omega);have hgo:acc++b.notes.drop k=acc++[b.notes[k]]++b.notes.drop (k+1):=by rw[List.drop_eq_getElem_cons hk'];simp
  rw[<-hgo]at ih;refine⟨c',γ',h1,fun n m hm=>?_⟩;obtain⟨m,rfl⟩:=qNz m (by omega);have ih:=ih n m (by omega);have hc2:2<c+1:=by omega
  generalize acc++b.notes.drop k=fin at ih|-;rw[AB];simp only[AC,mL]at ih|-;simp[AJ]at ih;simp[hk',hw,AJ,happ,DB,GU,eX,hc2,K3,K4,K5,HD,HE,IH,AAD,AJT,APT,ih]
theorem jP{f:Nat}{l:List (List V)}(h:AG f (.list false l)=true)(hf:f≠0):AG f (sl l)=true:=by
 cases l with
 |nil=>
  cases f with
  |zero=>exact absurd rfl hf
  |succ f=>rfl
 |cons e es=>exact h
theorem AZP(n:Nat)(b:AM)(hf:b.face.length<=100)(hs:b.sun.length<=100)(hw:b.winds.length<=100)(h1:∀l∈b.winds,l.length<=100)(hb:b.breaks.length<=100)(hn:b.notes.length<=100):A3 Tryz.prog kn (AE Tryz.prog ann kn (n+600)) 68 [.agg (AC b)]=some (.agg (JA b)):=by
 rw[AP rfl,AQ Tryz.func68 b68 rfl (by simp[AC,AH,AN,AJ])];have q1:=fun n=>AKO n b.face hf;have q2:=fun n=>AKO n b.sun hs;have q3:=fun n=>AZF n b.winds hw h1;obtain⟨c1,γ1,g1,r1⟩:=AA0 b (.box [i 0,i 0,i 0,i 0,.nil,.nil,.nil,.nil,.nil]) hb b.breaks.length 0 3 0 [] (by omega) (by simp) (by omega);have r1:=fun n m=>r1 n (m+200) (by omega);rw[List.drop_zero,List.nil_append]at r1;obtain⟨c2,γ2,g2,r2⟩:=AA1 b (.box [i 0,i 0,i 0,i 0,.nil,.nil,.nil,.nil,.nil]) hn γ1 (b.breaks.map AJ) b.notes.length 0 c1 0 [] (by omega) (by simp) (by omega);have r2:=fun n m=>r2 n (m+200) (by omega);rw[List.drop_zero,List.nil_append]at r2;simp only[AC,JA,mL]at r1 r2|-;simp at r1 r2;have g3:1<c2:=by omega
 simp[c68,AF,AH,AN,q1,q2,q3,r1,r2,eX,g3,K3,K4,K5,HD,HE,IH];rw[Q1 (T:=86) 2 _ 40 γ1 _ (by simp[HE]),Q1 (T:=99) 2 _ 65 γ2 _ (by simp[HD])];have hcl:∀l:List (Int×Int),AG 8 (sl (l.map AJ))=true:=fun l=>jP (by simp[AJ]) (by decide);simp[AH,AN,hcl]
end Go.Proofs.Tryz.Op
