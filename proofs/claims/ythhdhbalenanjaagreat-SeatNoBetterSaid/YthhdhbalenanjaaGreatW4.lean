/- Contracts: play, Play. No condition but a valid beach. -/
import Derived.Test.YthhdhbalenanjaaGreatW3
set_option maxRecDepth 100000
set_option linter.unusedSimpArgs false
open Go Go.Pg Go.Proofs Go.Wind
namespace Go.Wind
end Go.Wind
namespace Go.Proofs.Tryz.Op
@[simp] theorem AY3(l k γ i o:Nat):weakV (.eptr l k γ i o)=.eptr l k γ i o:=rfl
@[simp] theorem AO4(f l k γ i o:Nat):AH (f+1) (.eptr l k γ i o)=false:=rfl
theorem eD(L:AA)(k γ:Nat)(r:A0):AA.put L k γ r=(k,γ,r)::L:=rfl
theorem AY4(calm lit:Nat->Bool)(n:Nat):0<=(IY calm lit n).sun/\(IY calm lit n).sun<=n/\0<=(IY calm lit n).calm/\(IY calm lit n).calm<=n/\0<=(IY calm lit n).good/\(IY calm lit n).good<=n:=by have h1:=O7 lit n;have h2:=O7 calm n;have h3:=O7 (fun h=>lit h&&calm h) n;simp only[IY];omega
def M0(l:List eY):List V:=[.list false (l.map F6)]
def lT(b:AN)(plan:List (List Int))(t:List Int)(r:Nat):List eY:=(List.range b.places.toNat).map (CJ b plan t r)
def VQ(b:AN)(plan:List (List Int))(t:List Int)(n:Nat):List (List eY):=(List.range n).map (lT b plan t)
theorem AO5{j k m:Nat}(h1:j≠m)(h2:k≠m)(γ:Nat)(T:TypeId)(es:List (List V))(x:Nat×A0):(pl j γ T es++[(k,x)]).get m=none:=by cases es<;>simp[h1.symm,h2.symm]
theorem BDC{k:Nat}{x:Int×Int}(h:k<=10000):B9 Tryz.prog 86 k [[i x.1,i x.2]]=true:=by rw[CB (by simp) (by simp)];simp[maxLen];omega
theorem BLM{k:Nat}{x:Int×Int}(h:k<=10000):B9 Tryz.prog 99 k [[i x.1,i x.2]]=true:=by rw[CB (by simp) (by simp)];simp[maxLen];omega
def lU(b:AN)(x y:V):A0:=.box [i b.last,i b.rows,i b.places,i b.reach,li b.face,li b.sun,GW b.winds,x,y]
theorem AAK(b:AN)(Z:A0)(hl:b.breaks.length<=100):∀(d k c γ:Nat) (acc:List (Int×Int)),k+d=b.breaks.length->acc.length<=k->2<c->∃c' γ',2<c'/\∀n m,d<m->BF (AE Tryz.prog ann kn (n+400) 68) ZL (ann 68 (BW ZL)) m ⟨c,[(1,true,.ptr 0 1 0 0),(2,true,.ptr 0 2 1 0),(3,true,.ptr 0 3 2 0),(4,true,i k)],⟨[],(1,0,.box (AC b))::(2,1,Z)::(3,2,lU b (pv 40 γ (acc.map AF)) .nil)::pl 40 γ 86 (acc.map AF)⟩⟩ =
  some (.exit 0,⟨c',[(28,true,.bool false),(27,true,i b.breaks.length),(26,true,.list false (b.breaks.map AF)),(25,true,.ptr 0 1 0 7),(24,true,i b.breaks.length),(1,true,.ptr 0 1 0 0),(2,true,.ptr 0 2 1 0),(3,true,.ptr 0 3 2 0),(4,true,i b.breaks.length)],⟨[],(1,0,.box (AC b))::(2,1,Z)::(3,2,lU b (pv 40 γ' ((acc++b.breaks.drop k).map AF)) .nil)::pl 40 γ' 86 ((acc++b.breaks.drop k).map AF)⟩⟩)
 |0,k,c,γ,acc,hk,ha,hc=>by
  have:k=b.breaks.length:=by omega
  subst this;refine⟨c,γ,hc,fun n m hm=>?_⟩;obtain⟨m,rfl⟩:=qNz m (by omega);rw[List.drop_length,List.append_nil,AB];simp[AC,lU]
 |d+1,k,c,γ,acc,hk,ha,hc=>by
  have hk':k<b.breaks.length:=by omega
  have hw:=BM (k:=k) (by omega);have q:=fun n=>AJP n b.breaks[k];have happ:=BDC (k:=acc.length) (x:=b.breaks[k]) (by omega);obtain⟨c',γ',h1,ih⟩:=AAK b Z hl d (k+1) (c+1) c (acc++[b.breaks[k]]) (by omega) (by simp;omega) (by omega);have hgo:acc++b.breaks.drop k=acc++[b.breaks[k]]++b.breaks.drop (k+1):=by rw[List.drop_eq_getElem_cons hk'];simp
  rw[<-hgo]at ih;refine⟨c',γ',h1,fun n m hm=>?_⟩;obtain⟨m,rfl⟩:=qNz m (by omega);have ih:=ih n m (by omega);have hc2:2<c+1:=by omega
  generalize acc++b.breaks.drop k=fin at ih|-;rw[AB];simp only[AC,lU]at ih|-;simp[AF]at ih q;simp[hk',hw,AF,q,happ,C0,GK,eD,hc2,ih]
theorem AAL(b:AN)(Z:A0)(hl:b.notes.length<=100)(γ0:Nat)(A:List (List V)):∀(d k c γ:Nat) (acc:List (Int×Int)),k+d=b.notes.length->acc.length<=k->2<c->∃c' γ',2<c'/\∀n m,d<m->BF (AE Tryz.prog ann kn (n+400) 68) ZM (ann 68 (BW ZM)) m ⟨c,[(1,true,.ptr 0 1 0 0),(2,true,.ptr 0 2 1 0),(3,true,.ptr 0 3 2 0),(5,true,i k)],⟨[],(1,0,.box (AC b))::(2,1,Z)::(3,2,lU b (pv 40 γ0 A) (pv 65 γ (acc.map AF)))::(pl 40 γ0 86 A++pl 65 γ 99 (acc.map AF))⟩⟩ =
  some (.exit 2,⟨c',[(46,true,.bool false),(45,true,i b.notes.length),(44,true,.list false (b.notes.map AF)),(43,true,.ptr 0 1 0 8),(42,true,i b.notes.length),(1,true,.ptr 0 1 0 0),(2,true,.ptr 0 2 1 0),(3,true,.ptr 0 3 2 0),(5,true,i b.notes.length)],⟨[],(1,0,.box (AC b))::(2,1,Z)::(3,2,lU b (pv 40 γ0 A) (pv 65 γ' ((acc++b.notes.drop k).map AF)))::(pl 40 γ0 86 A++pl 65 γ' 99 ((acc++b.notes.drop k).map AF))⟩⟩)
 |0,k,c,γ,acc,hk,ha,hc=>by
  have:k=b.notes.length:=by omega
  subst this;refine⟨c,γ,hc,fun n m hm=>?_⟩;obtain⟨m,rfl⟩:=qNz m (by omega);rw[List.drop_length,List.append_nil,AB];simp[AC,lU,K1,K2,K3,GU,GV,IB]
 |d+1,k,c,γ,acc,hk,ha,hc=>by
  have hk':k<b.notes.length:=by omega
  have hw:=BM (k:=k) (by omega);have happ:=BLM (k:=acc.length) (x:=b.notes[k]) (by omega);obtain⟨c',γ',h1,ih⟩:=AAL b Z hl γ0 A d (k+1) (c+1) c (acc++[b.notes[k]]) (by omega) (by simp;omega) (by omega);have hgo:acc++b.notes.drop k=acc++[b.notes[k]]++b.notes.drop (k+1):=by rw[List.drop_eq_getElem_cons hk'];simp
  rw[<-hgo]at ih;refine⟨c',γ',h1,fun n m hm=>?_⟩;obtain⟨m,rfl⟩:=qNz m (by omega);have ih:=ih n m (by omega);have hc2:2<c+1:=by omega
  generalize acc++b.notes.drop k=fin at ih|-;rw[AB];simp only[AC,lU]at ih|-;simp[AF]at ih;simp[hk',hw,AF,happ,C0,GK,eD,hc2,K1,K2,K3,GU,GV,IB,zM,AIS,AO5,ih]
theorem jA{f:Nat}{l:List (List V)}(h:AH f (.list false l)=true)(hf:f≠0):AH f (sl l)=true:=by
 cases l with
 |nil=>
  cases f with
  |zero=>exact absurd rfl hf
  |succ f=>rfl
 |cons e es=>exact h
theorem AY5(n:Nat)(b:AN)(hf:b.face.length<=100)(hs:b.sun.length<=100)(hw:b.winds.length<=100)(h1:∀l∈b.winds,l.length<=100)(hb:b.breaks.length<=100)(hn:b.notes.length<=100):A2 Tryz.prog kn (AE Tryz.prog ann kn (n+600)) 68 [.agg (AC b)]=some (.agg (ID b)):=by
 rw[AO rfl,AP Tryz.func68 b68 rfl (by simp[AC,AJ,AL,AF])];have q1:=fun n=>AJN n b.face hf;have q2:=fun n=>AJN n b.sun hs;have q3:=fun n=>AYW n b.winds hw h1;obtain⟨c1,γ1,g1,r1⟩:=AAK b (.box [i 0,i 0,i 0,i 0,.nil,.nil,.nil,.nil,.nil]) hb b.breaks.length 0 3 0 [] (by omega) (by simp) (by omega);have r1:=fun n m=>r1 n (m+200) (by omega);rw[List.drop_zero,List.nil_append]at r1;obtain⟨c2,γ2,g2,r2⟩:=AAL b (.box [i 0,i 0,i 0,i 0,.nil,.nil,.nil,.nil,.nil]) hn γ1 (b.breaks.map AF) b.notes.length 0 c1 0 [] (by omega) (by simp) (by omega);have r2:=fun n m=>r2 n (m+200) (by omega);rw[List.drop_zero,List.nil_append]at r2;simp only[AC,ID,lU]at r1 r2|-;simp at r1 r2;have g3:1<c2:=by omega
 simp[c68,AG,AJ,AL,q1,q2,q3,r1,r2,eD,g3,K1,K2,K3,GU,GV,IB];rw[QR (T:=86) 2 _ 40 γ1 _ (by simp[GV]),QR (T:=99) 2 _ 65 γ2 _ (by simp[GU])];have hcl:∀l:List (Int×Int),AH 8 (sl (l.map AF))=true:=fun l=>jA (by simp[AF]) (by decide);simp[AJ,AL,hcl]
end Go.Proofs.Tryz.Op
