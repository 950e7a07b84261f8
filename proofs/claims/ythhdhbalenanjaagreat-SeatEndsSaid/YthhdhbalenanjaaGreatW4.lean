/- Contracts: play, Play. No condition but a valid beach. -/
import Derived.Test.YthhdhbalenanjaaGreatW3
import Derived.Test.YthhdhbalenanjaaGreatFz
set_option maxRecDepth 100000
set_option linter.unusedSimpArgs false
open Go Go.Pg Go.Proofs Go.Wind
namespace Go.Wind
def zC(x y:FW):FW:=⟨x.sun+y.sun,x.calm+y.calm,x.good+y.good⟩
end Go.Wind
namespace Go.Proofs.Tryz.Op
@[simp] theorem AUD(l k γ i o:Nat):weakV (.eptr l k γ i o)=.eptr l k γ i o:=rfl
@[simp] theorem AKU(f l k γ i o:Nat):AK (f+1) (.eptr l k γ i o)=false:=rfl
theorem KA(L:AA)(k γ:Nat)(r:AX):AA.put L k γ r=(k,γ,r)::L:=rfl
theorem A8H(t:St)(l:List FW):CK t (.vec 155 (l.map CH))=.vec 155 (l.map CH):=O3 fun e he v hv=>by obtain⟨x,_,rfl⟩:=List.mem_map.1 he;simp only[CH,List.mem_cons,List.not_mem_nil,or_false]at hv;rcases hv with rfl|rfl|rfl<;>rfl
theorem AKV(rs:List FW)(p:Nat)(x y z:Int):(rs.map CH).set p [.int .i64 x,.int .i64 y,.int .i64 z]=(rs.set p ⟨x,y,z⟩).map CH:=by rw[List.map_set];rfl
theorem AFS(b:AJ)(plan:List (List Int))(t:List Int)(r p h:Nat):zC (FD (IY b plan t r p) (IH b plan r) h) (bK b (r,p) h (CB plan h r) (t.getD h 0))=FD (IY b plan t r p) (IH b plan r) (h+1):=by
 have e:IH b plan r h=decide (b.sun.getD h 0=CB plan h r):=by unfold IH;congr 1;exact propext eq_comm
 have e2:IY b plan t r p h=OA b (r,p) (CB plan h r) (t.getD h 0):=rfl;simp only[FD,fH,bK,zC,←e,←e2];have g:∀(f:Nat→Bool),((fH f h:Nat):Int)+(if f h=true then 1 else 0)=((fH f h+if f h=true then 1 else 0:Nat):Int):=fun f=>by split<;>simp
 rw[g,g,g (fun h=>IH b plan r h&&IY b plan t r p h)]
theorem aZ(calm lit:Nat→Bool)(n:Nat):0≤(FD calm lit n).sun∧(FD calm lit n).sun≤n∧0≤(FD calm lit n).calm∧(FD calm lit n).calm≤n∧0≤(FD calm lit n).good∧(FD calm lit n).good≤n:=by have h1:=YJ lit n;have h2:=YJ calm n;have h3:=YJ (fun h=>lit h&&calm h) n;simp only[FD];omega
theorem A8I(b:AJ)(s:Int×Int)(h:Nat)(f w:Int):0≤(bK b s h f w).sun∧(bK b s h f w).sun≤1∧0≤(bK b s h f w).calm∧(bK b s h f w).calm≤1∧0≤(bK b s h f w).good∧(bK b s h f w).good≤1:=by unfold bK;simp only;cases decide (b.sun.getD h 0=f)<;>cases OA b s f w<;>simp
theorem AUE(t:St)(k γ:Nat)(T:TypeId)(A:List (List V))(hA:∀e∈A,∀v∈e,BV t v=some v):AN t (pl k γ T A)=pl k γ T A:=by
 cases A with
 |nil=>rfl
 |cons e es=>
  show AN t [(k,γ,.vec T (e::es))]=_
  rw[BE,O3 hA];rfl
theorem AOK(t:St)(b:AJ):CK t (.box (AC b))=.box (AC b):=by simp[AC,AH,AL,AF]
def BO(l:List FW):List V:=[.list false (l.map CH)]
theorem AKW(t:St)(A:List (List FW)):∀e∈A.map BO,∀v∈e,BV t v=some v:=by intro e he v hv;obtain⟨l,_,rfl⟩:=List.mem_map.1 he;simp only[BO,List.mem_cons,List.not_mem_nil,or_false]at hv;subst hv;simp[BV,CH]
def E7(b:AJ)(plan:List (List Int))(t:List Int)(r:Nat):Nat→Int
 |0=>0
 |p+1=>E7 b plan t r p+(DD b plan t r p).good
theorem VR(b:AJ)(plan:List (List Int))(t:List Int)(r:Nat):∀p,0≤E7 b plan t r p∧E7 b plan t r p≤p*t.length
 |0=>by simp[E7]
 |p+1=>by
  have h1:=VR b plan t r p;have h2:=aZ (IY b plan t r p) (IH b plan r) t.length;simp only[E7,DD];have e:((p+1:Nat):Int)*(t.length:Int)=(p:Int)*t.length+t.length:=by rw[Int.natCast_succ,Int.add_mul,Int.one_mul]
  omega
def L7(b:AJ)(plan:List (List Int))(t:List Int)(r p:Nat):List FW:=(List.range b.places.toNat).map fun j=>if j<p then DD b plan t r j else⟨0,0,0⟩
def UB(b:AJ)(plan:List (List Int))(t:List Int)(r:Nat):List FW:=(List.range b.places.toNat).map (DD b plan t r)
theorem UC(b:AJ)(plan:List (List Int))(t:List Int)(r p:Nat):(L7 b plan t r p).length=b.places.toNat:=by simp[L7]
theorem AFT{b:AJ}{plan:List (List Int)}{t:List Int}{r p:Nat}(h:p<b.places.toNat):(L7 b plan t r p)[p]? = some ⟨0,0,0⟩:=by simp[L7,h]
theorem nP{b:AJ}{plan:List (List Int)}{t:List Int}{r p:Nat}:(L7 b plan t r p).set p (DD b plan t r p)=L7 b plan t r (p+1):=by
 apply List.ext_getElem (by simp[L7]);intro j h1 h2;simp only[L7,List.getElem_set,List.getElem_map,List.getElem_range];by_cases e:p=j
 ·subst e;simp
 ·rw[if_neg e];have:(j<p)=(j<p+1):=propext ⟨fun h=>by omega,fun h=>by omega⟩;simp only[this]
theorem zD(b:AJ)(plan:List (List Int))(t:List Int)(r:Nat):L7 b plan t r b.places.toNat=UB b plan t r:=by
 apply List.ext_getElem (by simp[L7,UB]);intro j h1 h2;have:j<b.places.toNat:=by simpa [L7]using h1
 simp only[L7,UB,List.getElem_map,List.getElem_range,if_pos this]
theorem zE(b:AJ)(plan:List (List Int))(t:List Int)(r:Nat):L7 b plan t r 0=List.replicate b.places.toNat ⟨0,0,0⟩:=by apply List.ext_getElem (by simp[L7]);intro j h1 h2;simp[L7]
def HK(b:AJ)(plan:List (List Int))(t:List Int):Nat→Int
 |0=>0
 |r+1=>HK b plan t r+E7 b plan t r b.places.toNat
theorem eR(b:AJ)(hb:Valid b)(plan:List (List Int))(t:List Int)(h5:t.length≤5):∀r,r≤3→0≤HK b plan t r∧HK b plan t r≤r*25
 |0,_=>by simp[HK]
 |r+1,h=>by have h1:=eR b hb plan t h5 r (by omega);have h2:=VR b plan t r b.places.toNat;have:=hb.pl;have b3:(b.places.toNat:Int)*t.length≤5*5:=Int.mul_le_mul (by omega) (by omega) (by omega) (by omega);simp only[HK];omega
def DC(b:AJ)(plan:List (List Int))(t:List Int)(n:Nat):List (List FW):=(List.range n).map (UB b plan t)
theorem rU(b:AJ)(plan:List (List Int))(t:List Int)(n:Nat):DC b plan t (n+1)=DC b plan t n++[UB b plan t n]:=by simp[DC,List.range_succ]
theorem A8J{k:Nat}{x:List FW}(h:k≤10000):B4 Tryz.prog 156 k [BO x]=true:=by rw[CA (by simp[BO]) (by simp)];simp[maxLen,BO];omega
def BKQ(b:AJ)(plan:List (List Int))(t:List Int):List (List FW)×Int :=
 if CI b≠0 then([],CI b) else if DK b plan=true∧AV t b.winds=true then(DC b plan t b.rows.toNat,0) else([],2)
theorem AKX{j k m:Nat}(h1:j≠m)(h2:k≠m)(γ:Nat)(T:TypeId)(es:List (List V))(x:Nat×AX):(pl j γ T es++[(k,x)]).get m=none:=by cases es<;>simp[h1.symm,h2.symm]
theorem A8K{k:Nat}{x:Int×Int}(h:k≤10000):B4 Tryz.prog 86 k [[i x.1,i x.2]]=true:=by rw[CA (by simp) (by simp)];simp[maxLen];omega
theorem BHD{k:Nat}{x:Int×Int}(h:k≤10000):B4 Tryz.prog 99 k [[i x.1,i x.2]]=true:=by rw[CA (by simp) (by simp)];simp[maxLen];omega
def iC(b:AJ)(x y:V):AX:=.box [i b.last,i b.rows,i b.places,i b.reach,li b.face,li b.sun,GQ b.winds,x,y]
theorem vR(b:AJ)(Z:AX)(hl:b.breaks.length≤100):∀(d k c γ:Nat) (acc:List (Int×Int)),k+d=b.breaks.length→acc.length≤k→2<c→∃c' γ',2<c'∧∀n m,d<m→A9 (AE Tryz.prog ann kn (n+400) 68) XK (ann 68 (BS XK)) m ⟨c,[(1,true,.ptr 0 1 0 0),(2,true,.ptr 0 2 1 0),(3,true,.ptr 0 3 2 0),(4,true,i k)],⟨[],(1,0,.box (AC b))::(2,1,Z)::(3,2,iC b (pv 40 γ (acc.map AF)) .nil)::pl 40 γ 86 (acc.map AF)⟩⟩ =
  some (.exit 0,⟨c',[(28,true,.bool false),(27,true,i b.breaks.length),(26,true,.list false (b.breaks.map AF)),(25,true,.ptr 0 1 0 7),(24,true,i b.breaks.length),(1,true,.ptr 0 1 0 0),(2,true,.ptr 0 2 1 0),(3,true,.ptr 0 3 2 0),(4,true,i b.breaks.length)],⟨[],(1,0,.box (AC b))::(2,1,Z)::(3,2,iC b (pv 40 γ' ((acc++b.breaks.drop k).map AF)) .nil)::pl 40 γ' 86 ((acc++b.breaks.drop k).map AF)⟩⟩)
 |0,k,c,γ,acc,hk,ha,hc=>by
  have:k=b.breaks.length:=by omega
  subst this;refine⟨c,γ,hc,fun n m hm=>?_⟩;obtain⟨m,rfl⟩:∃m',m=m'+1:=⟨m-1,by omega⟩;rw[List.drop_length,List.append_nil,AB];simp[AC,iC]
 |d+1,k,c,γ,acc,hk,ha,hc=>by
  have hk':k<b.breaks.length:=by omega
  have hw:=BJ (k:=k) (by omega);have q:=fun n=>AFI n b.breaks[k];have happ:=A8K (k:=acc.length) (x:=b.breaks[k]) (by omega);obtain⟨c',γ',h1,ih⟩:=vR b Z hl d (k+1) (c+1) c (acc++[b.breaks[k]]) (by omega) (by simp;omega) (by omega);have hgo:acc++b.breaks.drop k=acc++[b.breaks[k]]++b.breaks.drop (k+1):=by rw[List.drop_eq_getElem_cons hk'];simp
  rw[←hgo]at ih;refine⟨c',γ',h1,fun n m hm=>?_⟩;obtain⟨m,rfl⟩:∃m',m=m'+1:=⟨m-1,by omega⟩;have ih:=ih n m (by omega);have hc2:2<c+1:=by omega
  generalize acc++b.breaks.drop k=fin at ih⊢;rw[AB];simp only[AC,iC]at ih⊢;simp[AF]at ih q;simp[hk',hw,AF,q,happ,E1,F9,KA,hc2,ih]
theorem vS(b:AJ)(Z:AX)(hl:b.notes.length≤100)(γ0:Nat)(A:List (List V)):∀(d k c γ:Nat) (acc:List (Int×Int)),k+d=b.notes.length→acc.length≤k→2<c→∃c' γ',2<c'∧∀n m,d<m→A9 (AE Tryz.prog ann kn (n+400) 68) XL (ann 68 (BS XL)) m ⟨c,[(1,true,.ptr 0 1 0 0),(2,true,.ptr 0 2 1 0),(3,true,.ptr 0 3 2 0),(5,true,i k)],⟨[],(1,0,.box (AC b))::(2,1,Z)::(3,2,iC b (pv 40 γ0 A) (pv 65 γ (acc.map AF)))::(pl 40 γ0 86 A++pl 65 γ 99 (acc.map AF))⟩⟩ =
  some (.exit 2,⟨c',[(46,true,.bool false),(45,true,i b.notes.length),(44,true,.list false (b.notes.map AF)),(43,true,.ptr 0 1 0 8),(42,true,i b.notes.length),(1,true,.ptr 0 1 0 0),(2,true,.ptr 0 2 1 0),(3,true,.ptr 0 3 2 0),(5,true,i b.notes.length)],⟨[],(1,0,.box (AC b))::(2,1,Z)::(3,2,iC b (pv 40 γ0 A) (pv 65 γ' ((acc++b.notes.drop k).map AF)))::(pl 40 γ0 86 A++pl 65 γ' 99 ((acc++b.notes.drop k).map AF))⟩⟩)
 |0,k,c,γ,acc,hk,ha,hc=>by
  have:k=b.notes.length:=by omega
  subst this;refine⟨c,γ,hc,fun n m hm=>?_⟩;obtain⟨m,rfl⟩:∃m',m=m'+1:=⟨m-1,by omega⟩;rw[List.drop_length,List.append_nil,AB];simp[AC,iC,O0,O1,O2,JH,JI,K1]
 |d+1,k,c,γ,acc,hk,ha,hc=>by
  have hk':k<b.notes.length:=by omega
  have hw:=BJ (k:=k) (by omega);have happ:=BHD (k:=acc.length) (x:=b.notes[k]) (by omega);obtain⟨c',γ',h1,ih⟩:=vS b Z hl γ0 A d (k+1) (c+1) c (acc++[b.notes[k]]) (by omega) (by simp;omega) (by omega);have hgo:acc++b.notes.drop k=acc++[b.notes[k]]++b.notes.drop (k+1):=by rw[List.drop_eq_getElem_cons hk'];simp
  rw[←hgo]at ih;refine⟨c',γ',h1,fun n m hm=>?_⟩;obtain⟨m,rfl⟩:∃m',m=m'+1:=⟨m-1,by omega⟩;have ih:=ih n m (by omega);have hc2:2<c+1:=by omega
  generalize acc++b.notes.drop k=fin at ih⊢;rw[AB];simp only[AC,iC]at ih⊢;simp[AF]at ih;simp[hk',hw,AF,happ,E1,F9,KA,hc2,O0,O1,O2,JH,JI,K1,uS,AEK,AKX,ih]
theorem eM{f:Nat}{l:List (List V)}(h:AK f (.list false l)=true)(hf:f≠0):AK f (sl l)=true:=by
 cases l with
 |nil=>
  cases f with
  |zero=>exact absurd rfl hf
  |succ f=>rfl
 |cons e es=>exact h
theorem AUF(n:Nat)(b:AJ)(hf:b.face.length≤100)(hs:b.sun.length≤100)(hw:b.winds.length≤100)(h1:∀l∈b.winds,l.length≤100)(hb:b.breaks.length≤100)(hn:b.notes.length≤100):AW Tryz.prog kn (AE Tryz.prog ann kn (n+600)) 68 [.agg (AC b)]=some (.agg (J9 b)):=by
 rw[AP rfl,AO Tryz.func68 b68 rfl (by simp[AC,AH,AL,AF])];have q1:=fun n=>AFG n b.face hf;have q2:=fun n=>AFG n b.sun hs;have q3:=fun n=>AT7 n b.winds hw h1;obtain⟨c1,γ1,g1,r1⟩:=vR b (.box [i 0,i 0,i 0,i 0,.nil,.nil,.nil,.nil,.nil]) hb b.breaks.length 0 3 0 [] (by omega) (by simp) (by omega);have r1:=fun n m=>r1 n (m+200) (by omega);rw[List.drop_zero,List.nil_append]at r1;obtain⟨c2,γ2,g2,r2⟩:=vS b (.box [i 0,i 0,i 0,i 0,.nil,.nil,.nil,.nil,.nil]) hn γ1 (b.breaks.map AF) b.notes.length 0 c1 0 [] (by omega) (by simp) (by omega);have r2:=fun n m=>r2 n (m+200) (by omega);rw[List.drop_zero,List.nil_append]at r2;simp only[AC,J9,iC]at r1 r2⊢;simp at r1 r2;have g3:1<c2:=by omega
 simp[c68,AG,AH,AL,q1,q2,q3,r1,r2,KA,g3,O0,O1,O2,JH,JI,K1];rw[PY (T:=86) 2 _ 40 γ1 _ (by simp[JI]),PY (T:=99) 2 _ 65 γ2 _ (by simp[JH])];have hcl:∀l:List (Int×Int),AK 8 (sl (l.map AF))=true:=fun l=>eM (by simp[AF]) (by decide);simp[AH,AL,hcl]
def BB1(b:AJ)(A:List (List FW)):Bool:=(A.all fun l=>decide ((l.length:Int)=b.places))&&decide ((A.length:Int)=b.rows)
end Go.Proofs.Tryz.Op
