/- Contracts: play, Play. No condition but a valid beach. -/
import Derived.Test.YthhdhbalenanjaaGreatW3
import Derived.Test.YthhdhbalenanjaaGreatFz
set_option maxRecDepth 100000
set_option linter.unusedSimpArgs false
open Go Go.Pg Go.Proofs Go.Wind
namespace Go.Wind
def BXT(x y:JO):JO:=⟨x.sun+y.sun,x.calm+y.calm,x.good+y.good⟩
end Go.Wind
namespace Go.Proofs.Tryz.Op
@[simp] theorem A1K(l k γ i o:Nat):weakV (.eptr l k γ i o)=.eptr l k γ i o:=rfl
@[simp] theorem AQ4(f l k γ i o:Nat):AH (f+1) (.eptr l k γ i o)=false:=rfl
theorem QO(L:AA)(k γ:Nat)(r:A6):AA.put L k γ r=(k,γ,r)::L:=rfl
theorem ALP(calm lit:Nat→Bool)(n:Nat):0≤(HY calm lit n).sun∧(HY calm lit n).sun≤n∧0≤(HY calm lit n).calm∧(HY calm lit n).calm≤n∧0≤(HY calm lit n).good∧(HY calm lit n).good≤n:=by have h1:=PU lit n;have h2:=PU calm n;have h3:=PU (fun h=>lit h&&calm h) n;simp only[HY];omega
def FN(l:List JO):List V:=[.list false (l.map EV)]
def ALQ(b:AK)(plan:List (List Int))(t:List Int)(r:Nat):Nat→Int
 |0=>0
 |p+1=>ALQ b plan t r p+(B8 b plan t r p).good
def BXU(b:AK)(plan:List (List Int))(t:List Int)(r p:Nat):List JO:=(List.range b.places.toNat).map fun j=>if j<p then B8 b plan t r j else⟨0,0,0⟩
def fN(b:AK)(plan:List (List Int))(t:List Int)(r:Nat):List JO:=(List.range b.places.toNat).map (B8 b plan t r)
def A1L(b:AK)(plan:List (List Int))(t:List Int):Nat→Int
 |0=>0
 |r+1=>A1L b plan t r+ALQ b plan t r b.places.toNat
def MI(b:AK)(plan:List (List Int))(t:List Int)(n:Nat):List (List JO):=(List.range n).map (fN b plan t)
def BSS(b:AK)(plan:List (List Int))(t:List Int):List (List JO)×Int :=
 if CV b≠0 then([],CV b) else if EF b plan=true∧A5 t b.winds=true then(MI b plan t b.rows.toNat,0) else([],2)
theorem AQ5{j k m:Nat}(h1:j≠m)(h2:k≠m)(γ:Nat)(T:TypeId)(es:List (List V))(x:Nat×A6):(pl j γ T es++[(k,x)]).get m=none:=by cases es<;>simp[h1.symm,h2.symm]
theorem BGA{k:Nat}{x:Int×Int}(h:k≤10000):B9 Tryz.prog 86 k [[i x.1,i x.2]]=true:=by rw[CA (by simp) (by simp)];simp[maxLen];omega
theorem BPF{k:Nat}{x:Int×Int}(h:k≤10000):B9 Tryz.prog 99 k [[i x.1,i x.2]]=true:=by rw[CA (by simp) (by simp)];simp[maxLen];omega
def nH(b:AK)(x y:V):A6:=.box [i b.last,i b.rows,i b.places,i b.reach,li b.face,li b.sun,G5 b.winds,x,y]
theorem AB7(b:AK)(Z:A6)(hl:b.breaks.length≤100):∀(d k c γ:Nat) (acc:List (Int×Int)),k+d=b.breaks.length→acc.length≤k→2<c→∃c' γ',2<c'∧∀n m,d<m→BF (AE Tryz.prog ann kn (n+400) 68) aJ (ann 68 (BW aJ)) m ⟨c,[(1,true,.ptr 0 1 0 0),(2,true,.ptr 0 2 1 0),(3,true,.ptr 0 3 2 0),(4,true,i k)],⟨[],(1,0,.box (AC b))::(2,1,Z)::(3,2,nH b (pv 40 γ (acc.map AF)) .nil)::pl 40 γ 86 (acc.map AF)⟩⟩ =
  some (.exit 0,⟨c',[(28,true,.bool false),(27,true,i b.breaks.length),(26,true,.list false (b.breaks.map AF)),(25,true,.ptr 0 1 0 7),(24,true,i b.breaks.length),(1,true,.ptr 0 1 0 0),(2,true,.ptr 0 2 1 0),(3,true,.ptr 0 3 2 0),(4,true,i b.breaks.length)],⟨[],(1,0,.box (AC b))::(2,1,Z)::(3,2,nH b (pv 40 γ' ((acc++b.breaks.drop k).map AF)) .nil)::pl 40 γ' 86 ((acc++b.breaks.drop k).map AF)⟩⟩)
 |0,k,c,γ,acc,hk,ha,hc=>by
  have:k=b.breaks.length:=by omega
  subst this;refine⟨c,γ,hc,fun n m hm=>?_⟩;obtain⟨m,rfl⟩:∃m',m=m'+1:=⟨m-1,by omega⟩;rw[List.drop_length,List.append_nil,AB];simp[AC,nH]
 |d+1,k,c,γ,acc,hk,ha,hc=>by
  have hk':k<b.breaks.length:=by omega
  have hw:=BM (k:=k) (by omega);have q:=fun n=>ALG n b.breaks[k];have happ:=BGA (k:=acc.length) (x:=b.breaks[k]) (by omega);obtain⟨c',γ',h1,ih⟩:=AB7 b Z hl d (k+1) (c+1) c (acc++[b.breaks[k]]) (by omega) (by simp;omega) (by omega);have hgo:acc++b.breaks.drop k=acc++[b.breaks[k]]++b.breaks.drop (k+1):=by rw[List.drop_eq_getElem_cons hk'];simp
  rw[←hgo]at ih;refine⟨c',γ',h1,fun n m hm=>?_⟩;obtain⟨m,rfl⟩:∃m',m=m'+1:=⟨m-1,by omega⟩;have ih:=ih n m (by omega);have hc2:2<c+1:=by omega
  generalize acc++b.breaks.drop k=fin at ih⊢;rw[AB];simp only[AC,nH]at ih⊢;simp[AF]at ih q;simp[hk',hw,AF,q,happ,C5,GD,QO,hc2,ih]
theorem AB8(b:AK)(Z:A6)(hl:b.notes.length≤100)(γ0:Nat)(A:List (List V)):∀(d k c γ:Nat) (acc:List (Int×Int)),k+d=b.notes.length→acc.length≤k→2<c→∃c' γ',2<c'∧∀n m,d<m→BF (AE Tryz.prog ann kn (n+400) 68) aK (ann 68 (BW aK)) m ⟨c,[(1,true,.ptr 0 1 0 0),(2,true,.ptr 0 2 1 0),(3,true,.ptr 0 3 2 0),(5,true,i k)],⟨[],(1,0,.box (AC b))::(2,1,Z)::(3,2,nH b (pv 40 γ0 A) (pv 65 γ (acc.map AF)))::(pl 40 γ0 86 A++pl 65 γ 99 (acc.map AF))⟩⟩ =
  some (.exit 2,⟨c',[(46,true,.bool false),(45,true,i b.notes.length),(44,true,.list false (b.notes.map AF)),(43,true,.ptr 0 1 0 8),(42,true,i b.notes.length),(1,true,.ptr 0 1 0 0),(2,true,.ptr 0 2 1 0),(3,true,.ptr 0 3 2 0),(5,true,i b.notes.length)],⟨[],(1,0,.box (AC b))::(2,1,Z)::(3,2,nH b (pv 40 γ0 A) (pv 65 γ' ((acc++b.notes.drop k).map AF)))::(pl 40 γ0 86 A++pl 65 γ' 99 ((acc++b.notes.drop k).map AF))⟩⟩)
 |0,k,c,γ,acc,hk,ha,hc=>by
  have:k=b.notes.length:=by omega
  subst this;refine⟨c,γ,hc,fun n m hm=>?_⟩;obtain⟨m,rfl⟩:∃m',m=m'+1:=⟨m-1,by omega⟩;rw[List.drop_length,List.append_nil,AB];simp[AC,nH,LB,LC,LD,G7,G8,IH]
 |d+1,k,c,γ,acc,hk,ha,hc=>by
  have hk':k<b.notes.length:=by omega
  have hw:=BM (k:=k) (by omega);have happ:=BPF (k:=acc.length) (x:=b.notes[k]) (by omega);obtain⟨c',γ',h1,ih⟩:=AB8 b Z hl γ0 A d (k+1) (c+1) c (acc++[b.notes[k]]) (by omega) (by simp;omega) (by omega);have hgo:acc++b.notes.drop k=acc++[b.notes[k]]++b.notes.drop (k+1):=by rw[List.drop_eq_getElem_cons hk'];simp
  rw[←hgo]at ih;refine⟨c',γ',h1,fun n m hm=>?_⟩;obtain⟨m,rfl⟩:∃m',m=m'+1:=⟨m-1,by omega⟩;have ih:=ih n m (by omega);have hc2:2<c+1:=by omega
  generalize acc++b.notes.drop k=fin at ih⊢;rw[AB];simp only[AC,nH]at ih⊢;simp[AF]at ih;simp[hk',hw,AF,happ,C5,GD,QO,hc2,LB,LC,LD,G7,G8,IH,ABK,AKJ,AQ5,ih]
theorem kQ{f:Nat}{l:List (List V)}(h:AH f (.list false l)=true)(hf:f≠0):AH f (sl l)=true:=by
 cases l with
 |nil=>
  cases f with
  |zero=>exact absurd rfl hf
  |succ f=>rfl
 |cons e es=>exact h
theorem A1M(n:Nat)(b:AK)(hf:b.face.length≤100)(hs:b.sun.length≤100)(hw:b.winds.length≤100)(h1:∀l∈b.winds,l.length≤100)(hb:b.breaks.length≤100)(hn:b.notes.length≤100):A0 Tryz.prog kn (AE Tryz.prog ann kn (n+600)) 68 [.agg (AC b)]=some (.agg (IJ b)):=by
 rw[AP rfl,AR Tryz.func68 b68 rfl (by simp[AC,AJ,AM,AF])];have q1:=fun n=>ALE n b.face hf;have q2:=fun n=>ALE n b.sun hs;have q3:=fun n=>A1D n b.winds hw h1;obtain⟨c1,γ1,g1,r1⟩:=AB7 b (.box [i 0,i 0,i 0,i 0,.nil,.nil,.nil,.nil,.nil]) hb b.breaks.length 0 3 0 [] (by omega) (by simp) (by omega);have r1:=fun n m=>r1 n (m+200) (by omega);rw[List.drop_zero,List.nil_append]at r1;obtain⟨c2,γ2,g2,r2⟩:=AB8 b (.box [i 0,i 0,i 0,i 0,.nil,.nil,.nil,.nil,.nil]) hn γ1 (b.breaks.map AF) b.notes.length 0 c1 0 [] (by omega) (by simp) (by omega);have r2:=fun n m=>r2 n (m+200) (by omega);rw[List.drop_zero,List.nil_append]at r2;simp only[AC,IJ,nH]at r1 r2⊢;simp at r1 r2;have g3:1<c2:=by omega
 simp[c68,AG,AJ,AM,q1,q2,q3,r1,r2,QO,g3,LB,LC,LD,G7,G8,IH];rw[RE (T:=86) 2 _ 40 γ1 _ (by simp[G8]),RE (T:=99) 2 _ 65 γ2 _ (by simp[G7])];have hcl:∀l:List (Int×Int),AH 8 (sl (l.map AF))=true:=fun l=>kQ (by simp[AF]) (by decide);simp[AJ,AM,hcl]
def BJV(b:AK)(A:List (List JO)):Bool:=(A.all fun l=>decide ((l.length:Int)=b.places))&&decide ((A.length:Int)=b.rows)
end Go.Proofs.Tryz.Op
