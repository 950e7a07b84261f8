/- Contracts: play, Play. No condition but a valid beach. -/
import Derived.Test.YthhdhbalenanjaaGreatW3
import Derived.Test.YthhdhbalenanjaaGreatFz
set_option maxRecDepth 100000
set_option linter.unusedSimpArgs false
open Go Go.Pg Go.Proofs Go.Wind
namespace Go.Wind
def zU(x y:EI):EI:=⟨x.sun+y.sun,x.calm+y.calm,x.good+y.good⟩
end Go.Wind
namespace Go.Proofs.Tryz.Op
@[simp] theorem AUW(l k γ i o:Nat):weakV (.eptr l k γ i o)=.eptr l k γ i o:=rfl
@[simp] theorem ALG(f l k γ i o:Nat):AK (f+1) (.eptr l k γ i o)=false:=rfl
theorem E9(L:AA)(k γ:Nat)(r:AZ):AA.put L k γ r=(k,γ,r)::L:=rfl
theorem A81(t:St)(l:List EI):CJ t (.vec 155 (l.map BI))=.vec 155 (l.map BI):=O9 fun e he v hv=>by obtain⟨x,_,rfl⟩:=List.mem_map.1 he;simp only[BI,List.mem_cons,List.not_mem_nil,or_false]at hv;rcases hv with rfl|rfl|rfl<;>rfl
theorem ALH(rs:List EI)(p:Nat)(x y z:Int):(rs.map BI).set p [.int .i64 x,.int .i64 y,.int .i64 z]=(rs.set p ⟨x,y,z⟩).map BI:=by rw[List.map_set];rfl
theorem AF9(b:AJ)(plan:List (List Int))(t:List Int)(r p h:Nat):zU (FK (I1 b plan t r p) (IL b plan r) h) (bP b (r,p) h (B7 plan h r) (t.getD h 0))=FK (I1 b plan t r p) (IL b plan r) (h+1):=by
 have e:IL b plan r h=decide (b.sun.getD h 0=B7 plan h r):=by unfold IL;congr 1;exact propext eq_comm
 have e2:I1 b plan t r p h=OD b (r,p) (B7 plan h r) (t.getD h 0):=rfl;simp only[FK,fN,bP,zU,←e,←e2];have g:∀(f:Nat→Bool),((fN f h:Nat):Int)+(if f h=true then 1 else 0)=((fN f h+if f h=true then 1 else 0:Nat):Int):=fun f=>by split<;>simp
 rw[g,g,g (fun h=>IL b plan r h&&I1 b plan t r p h)]
theorem bH(calm lit:Nat→Bool)(n:Nat):0≤(FK calm lit n).sun∧(FK calm lit n).sun≤n∧0≤(FK calm lit n).calm∧(FK calm lit n).calm≤n∧0≤(FK calm lit n).good∧(FK calm lit n).good≤n:=by have h1:=YS lit n;have h2:=YS calm n;have h3:=YS (fun h=>lit h&&calm h) n;simp only[FK];omega
theorem A82(b:AJ)(s:Int×Int)(h:Nat)(f w:Int):0≤(bP b s h f w).sun∧(bP b s h f w).sun≤1∧0≤(bP b s h f w).calm∧(bP b s h f w).calm≤1∧0≤(bP b s h f w).good∧(bP b s h f w).good≤1:=by unfold bP;simp only;cases decide (b.sun.getD h 0=f)<;>cases OD b s f w<;>simp
theorem AUX(t:St)(k γ:Nat)(T:TypeId)(A:List (List V))(hA:∀e∈A,∀v∈e,BT t v=some v):AL t (pl k γ T A)=pl k γ T A:=by
 cases A with
 |nil=>rfl
 |cons e es=>
  show AL t [(k,γ,.vec T (e::es))]=_
  rw[A5,O9 hA];rfl
theorem AO1(t:St)(b:AJ):CJ t (.box (AB b))=.box (AB b):=by simp[AB,AH,AM,AG]
def BF(l:List EI):List V:=[.list false (l.map BI)]
theorem ALI(t:St)(A:List (List EI)):∀e∈A.map BF,∀v∈e,BT t v=some v:=by intro e he v hv;obtain⟨l,_,rfl⟩:=List.mem_map.1 he;simp only[BF,List.mem_cons,List.not_mem_nil,or_false]at hv;subst hv;simp[BT,BI]
def FE(b:AJ)(plan:List (List Int))(t:List Int)(r:Nat):Nat→Int
 |0=>0
 |p+1=>FE b plan t r p+(DC b plan t r p).good
theorem VW(b:AJ)(plan:List (List Int))(t:List Int)(r:Nat):∀p,0≤FE b plan t r p∧FE b plan t r p≤p*t.length
 |0=>by simp[FE]
 |p+1=>by
  have h1:=VW b plan t r p;have h2:=bH (I1 b plan t r p) (IL b plan r) t.length;simp only[FE,DC];have e:((p+1:Nat):Int)*(t.length:Int)=(p:Int)*t.length+t.length:=by rw[Int.natCast_succ,Int.add_mul,Int.one_mul]
  omega
def L6(b:AJ)(plan:List (List Int))(t:List Int)(r p:Nat):List EI:=(List.range b.places.toNat).map fun j=>if j<p then DC b plan t r j else⟨0,0,0⟩
def UH(b:AJ)(plan:List (List Int))(t:List Int)(r:Nat):List EI:=(List.range b.places.toNat).map (DC b plan t r)
theorem UI(b:AJ)(plan:List (List Int))(t:List Int)(r p:Nat):(L6 b plan t r p).length=b.places.toNat:=by simp[L6]
theorem AGA{b:AJ}{plan:List (List Int)}{t:List Int}{r p:Nat}(h:p<b.places.toNat):(L6 b plan t r p)[p]? = some ⟨0,0,0⟩:=by simp[L6,h]
theorem oB{b:AJ}{plan:List (List Int)}{t:List Int}{r p:Nat}:(L6 b plan t r p).set p (DC b plan t r p)=L6 b plan t r (p+1):=by
 apply List.ext_getElem (by simp[L6]);intro j h1 h2;simp only[L6,List.getElem_set,List.getElem_map,List.getElem_range];by_cases e:p=j
 ·subst e;simp
 ·rw[if_neg e];have:(j<p)=(j<p+1):=propext ⟨fun h=>by omega,fun h=>by omega⟩;simp only[this]
theorem zV(b:AJ)(plan:List (List Int))(t:List Int)(r:Nat):L6 b plan t r b.places.toNat=UH b plan t r:=by
 apply List.ext_getElem (by simp[L6,UH]);intro j h1 h2;have:j<b.places.toNat:=by simpa [L6]using h1
 simp only[L6,UH,List.getElem_map,List.getElem_range,if_pos this]
theorem zW(b:AJ)(plan:List (List Int))(t:List Int)(r:Nat):L6 b plan t r 0=List.replicate b.places.toNat ⟨0,0,0⟩:=by apply List.ext_getElem (by simp[L6]);intro j h1 h2;simp[L6]
def HT(b:AJ)(plan:List (List Int))(t:List Int):Nat→Int
 |0=>0
 |r+1=>HT b plan t r+FE b plan t r b.places.toNat
theorem eZ(b:AJ)(hb:Valid b)(plan:List (List Int))(t:List Int)(h5:t.length≤5):∀r,r≤3→0≤HT b plan t r∧HT b plan t r≤r*25
 |0,_=>by simp[HT]
 |r+1,h=>by have h1:=eZ b hb plan t h5 r (by omega);have h2:=VW b plan t r b.places.toNat;have:=hb.pl;have b3:(b.places.toNat:Int)*t.length≤5*5:=Int.mul_le_mul (by omega) (by omega) (by omega) (by omega);simp only[HT];omega
def DH(b:AJ)(plan:List (List Int))(t:List Int)(n:Nat):List (List EI):=(List.range n).map (UH b plan t)
theorem sE(b:AJ)(plan:List (List Int))(t:List Int)(n:Nat):DH b plan t (n+1)=DH b plan t n++[UH b plan t n]:=by simp[DH,List.range_succ]
theorem A83{k:Nat}{x:List EI}(h:k≤10000):CA Tryz.prog 156 k [BF x]=true:=by rw[CH (by simp[BF]) (by simp)];simp[maxLen,BF];omega
def BLC(b:AJ)(plan:List (List Int))(t:List Int):List (List EI)×Int :=
 if CE b≠0 then([],CE b) else if DJ b plan=true∧AU t b.winds=true then(DH b plan t b.rows.toNat,0) else([],2)
theorem ALJ{j k m:Nat}(h1:j≠m)(h2:k≠m)(γ:Nat)(T:TypeId)(es:List (List V))(x:Nat×AZ):(pl j γ T es++[(k,x)]).get m=none:=by cases es<;>simp[h1.symm,h2.symm]
theorem A84{k:Nat}{x:Int×Int}(h:k≤10000):CA Tryz.prog 86 k [[i x.1,i x.2]]=true:=by rw[CH (by simp) (by simp)];simp[maxLen];omega
theorem BHW{k:Nat}{x:Int×Int}(h:k≤10000):CA Tryz.prog 99 k [[i x.1,i x.2]]=true:=by rw[CH (by simp) (by simp)];simp[maxLen];omega
def iJ(b:AJ)(x y:V):AZ:=.box [i b.last,i b.rows,i b.places,i b.reach,li b.face,li b.sun,GN b.winds,x,y]
theorem wF(b:AJ)(Z:AZ)(hl:b.breaks.length≤100):∀(d k c γ:Nat) (acc:List (Int×Int)),k+d=b.breaks.length→acc.length≤k→2<c→∃c' γ',2<c'∧∀n m,d<m→BC (AE Tryz.prog ann kn (n+400) 68) XP (ann 68 (BR XP)) m ⟨c,[(1,true,.ptr 0 1 0 0),(2,true,.ptr 0 2 1 0),(3,true,.ptr 0 3 2 0),(4,true,i k)],⟨[],(1,0,.box (AB b))::(2,1,Z)::(3,2,iJ b (pv 40 γ (acc.map AG)) .nil)::pl 40 γ 86 (acc.map AG)⟩⟩ =
  some (.exit 0,⟨c',[(28,true,.bool false),(27,true,i b.breaks.length),(26,true,.list false (b.breaks.map AG)),(25,true,.ptr 0 1 0 7),(24,true,i b.breaks.length),(1,true,.ptr 0 1 0 0),(2,true,.ptr 0 2 1 0),(3,true,.ptr 0 3 2 0),(4,true,i b.breaks.length)],⟨[],(1,0,.box (AB b))::(2,1,Z)::(3,2,iJ b (pv 40 γ' ((acc++b.breaks.drop k).map AG)) .nil)::pl 40 γ' 86 ((acc++b.breaks.drop k).map AG)⟩⟩)
 |0,k,c,γ,acc,hk,ha,hc=>by
  have:k=b.breaks.length:=by omega
  subst this;refine⟨c,γ,hc,fun n m hm=>?_⟩;obtain⟨m,rfl⟩:∃m',m=m'+1:=⟨m-1,by omega⟩;rw[List.drop_length,List.append_nil,AC];simp[AB,iJ]
 |d+1,k,c,γ,acc,hk,ha,hc=>by
  have hk':k<b.breaks.length:=by omega
  have hw:=BH (k:=k) (by omega);have q:=fun n=>AFZ n b.breaks[k];have happ:=A84 (k:=acc.length) (x:=b.breaks[k]) (by omega);obtain⟨c',γ',h1,ih⟩:=wF b Z hl d (k+1) (c+1) c (acc++[b.breaks[k]]) (by omega) (by simp;omega) (by omega);have hgo:acc++b.breaks.drop k=acc++[b.breaks[k]]++b.breaks.drop (k+1):=by rw[List.drop_eq_getElem_cons hk'];simp
  rw[←hgo]at ih;refine⟨c',γ',h1,fun n m hm=>?_⟩;obtain⟨m,rfl⟩:∃m',m=m'+1:=⟨m-1,by omega⟩;have ih:=ih n m (by omega);have hc2:2<c+1:=by omega
  generalize acc++b.breaks.drop k=fin at ih⊢;rw[AC];simp only[AB,iJ]at ih⊢;simp[AG]at ih q;simp[hk',hw,AG,q,happ,ET,HV,E9,hc2,ih]
theorem wG(b:AJ)(Z:AZ)(hl:b.notes.length≤100)(γ0:Nat)(A:List (List V)):∀(d k c γ:Nat) (acc:List (Int×Int)),k+d=b.notes.length→acc.length≤k→2<c→∃c' γ',2<c'∧∀n m,d<m→BC (AE Tryz.prog ann kn (n+400) 68) XQ (ann 68 (BR XQ)) m ⟨c,[(1,true,.ptr 0 1 0 0),(2,true,.ptr 0 2 1 0),(3,true,.ptr 0 3 2 0),(5,true,i k)],⟨[],(1,0,.box (AB b))::(2,1,Z)::(3,2,iJ b (pv 40 γ0 A) (pv 65 γ (acc.map AG)))::(pl 40 γ0 86 A++pl 65 γ 99 (acc.map AG))⟩⟩ =
  some (.exit 2,⟨c',[(46,true,.bool false),(45,true,i b.notes.length),(44,true,.list false (b.notes.map AG)),(43,true,.ptr 0 1 0 8),(42,true,i b.notes.length),(1,true,.ptr 0 1 0 0),(2,true,.ptr 0 2 1 0),(3,true,.ptr 0 3 2 0),(5,true,i b.notes.length)],⟨[],(1,0,.box (AB b))::(2,1,Z)::(3,2,iJ b (pv 40 γ0 A) (pv 65 γ' ((acc++b.notes.drop k).map AG)))::(pl 40 γ0 86 A++pl 65 γ' 99 ((acc++b.notes.drop k).map AG))⟩⟩)
 |0,k,c,γ,acc,hk,ha,hc=>by
  have:k=b.notes.length:=by omega
  subst this;refine⟨c,γ,hc,fun n m hm=>?_⟩;obtain⟨m,rfl⟩:∃m',m=m'+1:=⟨m-1,by omega⟩;rw[List.drop_length,List.append_nil,AC];simp[AB,iJ,O6,O7,O8,JG,JH,K1]
 |d+1,k,c,γ,acc,hk,ha,hc=>by
  have hk':k<b.notes.length:=by omega
  have hw:=BH (k:=k) (by omega);have happ:=BHW (k:=acc.length) (x:=b.notes[k]) (by omega);obtain⟨c',γ',h1,ih⟩:=wG b Z hl γ0 A d (k+1) (c+1) c (acc++[b.notes[k]]) (by omega) (by simp;omega) (by omega);have hgo:acc++b.notes.drop k=acc++[b.notes[k]]++b.notes.drop (k+1):=by rw[List.drop_eq_getElem_cons hk'];simp
  rw[←hgo]at ih;refine⟨c',γ',h1,fun n m hm=>?_⟩;obtain⟨m,rfl⟩:∃m',m=m'+1:=⟨m-1,by omega⟩;have ih:=ih n m (by omega);have hc2:2<c+1:=by omega
  generalize acc++b.notes.drop k=fin at ih⊢;rw[AC];simp only[AB,iJ]at ih⊢;simp[AG]at ih;simp[hk',hw,AG,happ,ET,HV,E9,hc2,O6,O7,O8,JG,JH,K1,vG,AE1,ALJ,ih]
theorem eU{f:Nat}{l:List (List V)}(h:AK f (.list false l)=true)(hf:f≠0):AK f (sl l)=true:=by
 cases l with
 |nil=>
  cases f with
  |zero=>exact absurd rfl hf
  |succ f=>rfl
 |cons e es=>exact h
theorem AUY(n:Nat)(b:AJ)(hf:b.face.length≤100)(hs:b.sun.length≤100)(hw:b.winds.length≤100)(h1:∀l∈b.winds,l.length≤100)(hb:b.breaks.length≤100)(hn:b.notes.length≤100):AW Tryz.prog kn (AE Tryz.prog ann kn (n+600)) 68 [.agg (AB b)]=some (.agg (HR b)):=by
 rw[AQ rfl,AP Tryz.func68 b68 rfl (by simp[AB,AH,AM,AG])];have q1:=fun n=>AFX n b.face hf;have q2:=fun n=>AFX n b.sun hs;have q3:=fun n=>AUQ n b.winds hw h1;obtain⟨c1,γ1,g1,r1⟩:=wF b (.box [i 0,i 0,i 0,i 0,.nil,.nil,.nil,.nil,.nil]) hb b.breaks.length 0 3 0 [] (by omega) (by simp) (by omega);have r1:=fun n m=>r1 n (m+200) (by omega);rw[List.drop_zero,List.nil_append]at r1;obtain⟨c2,γ2,g2,r2⟩:=wG b (.box [i 0,i 0,i 0,i 0,.nil,.nil,.nil,.nil,.nil]) hn γ1 (b.breaks.map AG) b.notes.length 0 c1 0 [] (by omega) (by simp) (by omega);have r2:=fun n m=>r2 n (m+200) (by omega);rw[List.drop_zero,List.nil_append]at r2;simp only[AB,HR,iJ]at r1 r2⊢;simp at r1 r2;have g3:1<c2:=by omega
 simp[c68,AF,AH,AM,q1,q2,q3,r1,r2,E9,g3,O6,O7,O8,JG,JH,K1];rw[P2 (T:=86) 2 _ 40 γ1 _ (by simp[JH]),P2 (T:=99) 2 _ 65 γ2 _ (by simp[JG])];have hcl:∀l:List (Int×Int),AK 8 (sl (l.map AG))=true:=fun l=>eU (by simp[AG]) (by decide);simp[AH,AM,hcl]
def BCO(b:AJ)(A:List (List EI)):Bool:=(A.all fun l=>decide ((l.length:Int)=b.places))&&decide ((A.length:Int)=b.rows)
end Go.Proofs.Tryz.Op
