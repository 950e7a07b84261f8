/- Contracts of the reference: Empty, Wider, Sum, Truths; of the law: sure, to. No condition but a valid beach. -/
import Derived.Test.YthhdhbalenanjaaGreatX1
import Derived.Test.YthhdhbalenanjaaGreatV1
import Derived.Test.YthhdhbalenanjaaGreatFz
set_option maxRecDepth 100000
set_option linter.unusedSimpArgs false
open Go Go.Pg Go.Proofs Go.Wind
namespace Go.Proofs.Tryz.Op
@[simp] theorem A0C:J5 Tryz.prog 130=false:=by kernel_rfl
@[simp] theorem AUP:J5 Tryz.prog 131=false:=by kernel_rfl
def AAE(l:List FW):Nat→Int
 |0=>0
 |n+1=>AAE l n+(l.getD n ⟨0,0,0⟩).good
def AO2(A:List (List FW)):Nat→Int
 |0=>0
 |n+1=>AO2 A n+AAE (A.getD n []) (A.getD n []).length
theorem A0D{k:Nat}{x:List Int}(h:k≤10000):B4 Tryz.prog 22 k [AL x]=true:=by rw[CA (by simp[AL]) (by simp)];simp[maxLen,AL];omega
theorem XI(b:AJ)(hb:Valid b):∀(d j c γ:Nat) (out:List (List Int)),j+d=FV b.winds→out.length≤j→∃fr c' γ',BQ fr 3=some (true,pv 21 γ' ((out++((List.range' j d).map (DW b.winds)).filter (CS b)).map AL))∧∀n k,d<k→A9 (AE Tryz.prog ann kn (n+1000) 23) YB (ann 23 (BS YB)) k ⟨c,[(1,true,.ptr 0 1 0 0),(3,true,pv 21 γ (out.map AL)),(4,true,i j)],⟨[],(1,0,.box (AC b))::pl 21 γ 22 (out.map AL)⟩⟩ =
  some (.exit 0,⟨c',fr,⟨[],(1,0,.box (AC b))::pl 21 γ' 22 ((out++((List.range' j d).map (DW b.winds)).filter (CS b)).map AL)⟩⟩)
 |0,j,c,γ,out,hd,ho=>by
  have:j=FV b.winds:=by omega
  subst this;have qm:=fun n=>AFK n b hb;refine⟨?fr,c,γ,?g1,fun n k hk=>?g2⟩;case g2=>
   obtain⟨k,rfl⟩:∃k',k=k'+1:=⟨k-1,by omega⟩
   rw[AB]
   simp only[AC]at qm⊢
   simp[AH,AL,AF,qm]
   rfl
  case g1=>simp
 |d+1,j,c,γ,out,hd,ho=>by
  have hm:=hb.many;have hj:j<FV b.winds:=by omega
  have hw:=BJ (k:=j) (by omega);have qm:=fun n=>AFK n b hb;have qn:=fun n=>BHA n b hb j (by omega);have qt:=fun n=>AKM n b hb (DW b.winds j);have hln:(DW b.winds j).length=b.winds.length:=BZ (YI hb.ne j);have hne:DW b.winds j≠[]:=fun e=>by have hla:=hb.la;have hwi:=hb.wi;rw[e]at hln;simp at hln;omega
  rw[slX hne]at qn;have er:(List.range' j (d+1)).map (DW b.winds)=DW b.winds j::(List.range' (j+1) d).map (DW b.winds):=by rw[List.range'_succ,List.map_cons]
  rw[er,List.filter_cons];cases ht:CS b (DW b.winds j)with
  |false=>
   rw[ht]at qt
   rw[if_neg (by decide)]
   obtain⟨fr,c',γ',e1,ih⟩:=XI b hb d (j+1) c γ out (by omega) (by omega)
   refine⟨fr,c',γ',e1,fun n k hk=>?_⟩
   obtain⟨k,rfl⟩:∃k',k=k'+1:=⟨k-1,by omega⟩
   have ih:=ih n k (by omega)
   generalize ((List.range' (j+1) d).map (DW b.winds)).filter (CS b)=F at ih⊢
   generalize DW b.winds j=T at qn qt
   rw[AB]
   simp only[AC]at qm qn qt ih⊢
   simp at ih
   simp[hj,hw,AH,AL,AF,qm,qn,qt,ih]
  |true=>
   rw[ht]at qt
   rw[if_pos rfl]
   obtain⟨fr,c',γ',e1,ih⟩:=XI b hb d (j+1) (c+1) c (out++[DW b.winds j]) (by omega) (by simp;omega)
   rw[List.append_assoc,List.singleton_append]at e1 ih
   have happ:=A0D (k:=out.length) (x:=DW b.winds j) (by omega)
   refine⟨fr,c',γ',e1,fun n k hk=>?_⟩
   obtain⟨k,rfl⟩:∃k',k=k'+1:=⟨k-1,by omega⟩
   have ih:=ih n k (by omega)
   generalize DW b.winds j::((List.range' (j+1) d).map (DW b.winds)).filter (CS b)=F at ih⊢
   generalize DW b.winds j=T at qn qt ih happ
   rw[AB]
   simp only[AC]at qm qn qt ih⊢
   simp[AL]at ih happ
   simp[hj,hw,AH,AL,AF,qm,qn,qt,happ,ih]
theorem cM(n:Nat)(b:AJ)(hb:Valid b):AW Tryz.prog kn (AE Tryz.prog ann kn (n+2200)) 55 [.agg (AC b)]=some (sl ((BU b).map AL)):=by rw[AP rfl,AO Tryz.func55 b55 rfl (by simp[AC,AH,AL,AF])];have hm:=hb.many;obtain⟨fr,c',γ',e1,q⟩:=XI b hb (FV b.winds) 0 1 0 [] (by omega) (by simp);have q:=fun n k=>q n (k+1100) (by omega);rw[List.nil_append,←List.range_eq_range']at e1 q;change BQ fr 3=some (true,pv 21 γ' ((BU b).map AL))at e1;change ∀n k,_=some (Exit.exit 0,(⟨c',fr,⟨[],(1,0,.box (AC b))::pl 21 γ' 22 ((BU b).map AL)⟩⟩:XS))at q;generalize BU b=T at *;simp only[AC]at q⊢;simp at q;simp[c55,AG,q,e1,AL,AH]
def BHW(b:AJ):List (List Int)×Int:=if CI b=0 then(BU b,if BU b=[] then 11 else 0) else([],CI b)
end Go.Proofs.Tryz.Op
