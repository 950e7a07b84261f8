/- Contracts: play, Play. No condition but a valid beach. -/
import Derived.Test.YthhdhbalenanjaaGreatW3
set_option maxRecDepth 100000
set_option linter.unusedSimpArgs false
open Go Go.Pg Go.Proofs Go.Wind
namespace Go.Wind
end Go.Wind
namespace Go.Proofs.Tryz.Op
theorem AYO(calm lit:Nat->Bool)(n:Nat):0<=(IM calm lit n).sun/\(IM calm lit n).sun<=n/\0<=(IM calm lit n).calm/\(IM calm lit n).calm<=n/\0<=(IM calm lit n).good/\(IM calm lit n).good<=n:=by have h1:=O7 lit n;have h2:=O7 calm n;have h3:=O7 (fun h=>lit h&&calm h) n;simp only[IM];omega
def MY(l:List fD):List V:=[.list false (l.map F9)]
def mG(b:AK)(plan:List (List Int))(t:List Int)(r:Nat):List fD:=(List.range b.places.toNat).map (CG b plan t r)
def VW(b:AK)(plan:List (List Int))(t:List Int)(n:Nat):List (List fD):=(List.range n).map (mG b plan t)
theorem API{j k m:Nat}(h1:j≠m)(h2:k≠m)(γ:Nat)(T:TypeId)(es:List (List V))(x:Nat×A0):(pl j γ T es++[(k,x)]).get m=none:=by cases es<;>simp[h1.symm,h2.symm]
theorem BJA{k:Nat}{x:Int×Int}(h:k<=10000):BZ Tryz.prog 86 k [[i x.1,i x.2]]=true:=by rw[BT (by simp) (by simp)];simp[maxLen];omega
theorem BJB{k:Nat}{x:Int×Int}(h:k<=10000):BZ Tryz.prog 99 k [[i x.1,i x.2]]=true:=by rw[BT (by simp) (by simp)];simp[maxLen];omega
def mH(b:AK)(x y:V):A0:=.box [i b.last,i b.rows,i b.places,i b.reach,li b.face,li b.sun,FI b.winds,x,y]
theorem AAS(b:AK)(Z:A0)(hl:b.breaks.length<=100):∀(d k c γ:Nat) (acc:List (Int×Int)),k+d=b.breaks.length->acc.length<=k->2<c->∃c' γ',2<c'/\∀n m,d<m->A9 (AE Tryz.prog ann kn (n+400) 68) Z4 (ann 68 (BV Z4)) m ⟨c,[(1,true,.ptr 0 1 0 0),(2,true,.ptr 0 2 1 0),(3,true,.ptr 0 3 2 0),(4,true,i k)],⟨[],(1,0,.box (AC b))::(2,1,Z)::(3,2,mH b (pv 40 γ (acc.map AH)) .nil)::pl 40 γ 86 (acc.map AH)⟩⟩ =
  some (.exit 0,⟨c',[(28,true,.bool false),(27,true,i b.breaks.length),(26,true,.list false (b.breaks.map AH)),(25,true,.ptr 0 1 0 7),(24,true,i b.breaks.length),(1,true,.ptr 0 1 0 0),(2,true,.ptr 0 2 1 0),(3,true,.ptr 0 3 2 0),(4,true,i b.breaks.length)],⟨[],(1,0,.box (AC b))::(2,1,Z)::(3,2,mH b (pv 40 γ' ((acc++b.breaks.drop k).map AH)) .nil)::pl 40 γ' 86 ((acc++b.breaks.drop k).map AH)⟩⟩)
 |0,k,c,γ,acc,hk,ha,hc=>by
  have:k=b.breaks.length:=by omega
  subst this;refine⟨c,γ,hc,fun n m hm=>?_⟩;obtain⟨m,rfl⟩:=qNz m (by omega);rw[List.drop_length,List.append_nil,AB];simp[AC,mH]
 |d+1,k,c,γ,acc,hk,ha,hc=>by
  have hk':k<b.breaks.length:=by omega
  have hw:=BH (k:=k) (by omega);have q:=fun n=>AJ8 n b.breaks[k];have happ:=BJA (k:=acc.length) (x:=b.breaks[k]) (by omega);obtain⟨c',γ',h1,ih⟩:=AAS b Z hl d (k+1) (c+1) c (acc++[b.breaks[k]]) (by omega) (by simp;omega) (by omega);have hgo:acc++b.breaks.drop k=acc++[b.breaks[k]]++b.breaks.drop (k+1):=by rw[List.drop_eq_getElem_cons hk'];simp
  rw[<-hgo]at ih;refine⟨c',γ',h1,fun n m hm=>?_⟩;obtain⟨m,rfl⟩:=qNz m (by omega);have ih:=ih n m (by omega);have hc2:2<c+1:=by omega
  generalize acc++b.breaks.drop k=fin at ih|-;rw[AB];simp only[AC,mH]at ih|-;simp[AH]at ih q;simp[hk',hw,AH,q,happ,JE,hc2,ih]
theorem AAT(b:AK)(Z:A0)(hl:b.notes.length<=100)(γ0:Nat)(A:List (List V)):∀(d k c γ:Nat) (acc:List (Int×Int)),k+d=b.notes.length->acc.length<=k->2<c->∃c' γ',2<c'/\∀n m,d<m->A9 (AE Tryz.prog ann kn (n+400) 68) Z5 (ann 68 (BV Z5)) m ⟨c,[(1,true,.ptr 0 1 0 0),(2,true,.ptr 0 2 1 0),(3,true,.ptr 0 3 2 0),(5,true,i k)],⟨[],(1,0,.box (AC b))::(2,1,Z)::(3,2,mH b (pv 40 γ0 A) (pv 65 γ (acc.map AH)))::(pl 40 γ0 86 A++pl 65 γ 99 (acc.map AH))⟩⟩ =
  some (.exit 2,⟨c',[(46,true,.bool false),(45,true,i b.notes.length),(44,true,.list false (b.notes.map AH)),(43,true,.ptr 0 1 0 8),(42,true,i b.notes.length),(1,true,.ptr 0 1 0 0),(2,true,.ptr 0 2 1 0),(3,true,.ptr 0 3 2 0),(5,true,i b.notes.length)],⟨[],(1,0,.box (AC b))::(2,1,Z)::(3,2,mH b (pv 40 γ0 A) (pv 65 γ' ((acc++b.notes.drop k).map AH)))::(pl 40 γ0 86 A++pl 65 γ' 99 ((acc++b.notes.drop k).map AH))⟩⟩)
 |0,k,c,γ,acc,hk,ha,hc=>by
  have:k=b.notes.length:=by omega
  subst this;refine⟨c,γ,hc,fun n m hm=>?_⟩;obtain⟨m,rfl⟩:=qNz m (by omega);rw[List.drop_length,List.append_nil,AB];simp[AC,mH,KS,I3,H1,VP]
 |d+1,k,c,γ,acc,hk,ha,hc=>by
  have hk':k<b.notes.length:=by omega
  have hw:=BH (k:=k) (by omega);have happ:=BJB (k:=acc.length) (x:=b.notes[k]) (by omega);obtain⟨c',γ',h1,ih⟩:=AAT b Z hl γ0 A d (k+1) (c+1) c (acc++[b.notes[k]]) (by omega) (by simp;omega) (by omega);have hgo:acc++b.notes.drop k=acc++[b.notes[k]]++b.notes.drop (k+1):=by rw[List.drop_eq_getElem_cons hk'];simp
  rw[<-hgo]at ih;refine⟨c',γ',h1,fun n m hm=>?_⟩;obtain⟨m,rfl⟩:=qNz m (by omega);have ih:=ih n m (by omega);have hc2:2<c+1:=by omega
  generalize acc++b.notes.drop k=fin at ih|-;rw[AB];simp only[AC,mH]at ih|-;simp[AH]at ih;simp[hk',hw,AH,happ,JE,hc2,KS,I3,H1,VP,AOQ,AWL,API,ih]
theorem jL{f:Nat}{l:List (List V)}(h:AG f (.list false l)=true)(hf:f≠0):AG f (sl l)=true:=by
 cases l with
 |nil=>
  cases f with
  |zero=>exact absurd rfl hf
  |succ f=>rfl
 |cons e es=>exact h
theorem AYP(n:Nat)(b:AK)(hf:b.face.length<=100)(hs:b.sun.length<=100)(hw:b.winds.length<=100)(h1:∀l∈b.winds,l.length<=100)(hb:b.breaks.length<=100)(hn:b.notes.length<=100):AZ Tryz.prog kn (AE Tryz.prog ann kn (n+600)) 68 [.agg (AC b)]=some (.agg (H2 b)):=by
 rw[AN rfl,AO Tryz.func68 b68 rfl (by simp[AC,AW,AY,AH])];have q1:=fun n=>AJ6 n b.face hf;have q2:=fun n=>AJ6 n b.sun hs;have q3:=fun n=>AYH n b.winds hw h1;obtain⟨c1,γ1,g1,r1⟩:=AAS b (.box [i 0,i 0,i 0,i 0,.nil,.nil,.nil,.nil,.nil]) hb b.breaks.length 0 3 0 [] (by omega) (by simp) (by omega);have r1:=fun n m=>r1 n (m+200) (by omega);rw[List.drop_zero,List.nil_append]at r1;obtain⟨c2,γ2,g2,r2⟩:=AAT b (.box [i 0,i 0,i 0,i 0,.nil,.nil,.nil,.nil,.nil]) hn γ1 (b.breaks.map AH) b.notes.length 0 c1 0 [] (by omega) (by simp) (by omega);have r2:=fun n m=>r2 n (m+200) (by omega);rw[List.drop_zero,List.nil_append]at r2;simp only[AC,H2,mH]at r1 r2|-;simp at r1 r2;have g3:1<c2:=by omega
 simp[c68,AF,q1,q2,q3,r1,r2,g3,KS,I3,H1,VP];rw[QR (T:=86) 2 _ 40 γ1 _ (by simp[H1]),QR (T:=99) 2 _ 65 γ2 _ (by simp[I3])];have hcl:∀l:List (Int×Int),AG 8 (sl (l.map AH))=true:=fun l=>jL (by simp[AH]) (by decide);simp[AW,AY,hcl]
end Go.Proofs.Tryz.Op
