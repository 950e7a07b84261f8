/- Contracts: wider; what Bounds does in a truth. No condition but a valid case. -/
import Derived.Test.YthhdhbalenanjaaGreatS1
import Derived.Test.YthhdhbalenanjaaGreatX1
import Derived.Test.YthhdhbalenanjaaGreatFz
set_option maxRecDepth 100000
set_option linter.unusedSimpArgs false
open Go Go.Pg Go.Proofs Go.Wind
namespace Go.Wind
def wid(r:Int×Int)(n:Int):Int×Int:=(min r.1 n,max r.2 n)
def DX(rs:List (Int×Int))(ns:List Int):Nat→List (Int×Int)
 |0=>rs
 |j+1=>if (DX rs ns j).length=j then DX rs ns j++[(ns.getD j 0,ns.getD j 0)] else(DX rs ns j).set j (wid ((DX rs ns j).getD j (0,0)) (ns.getD j 0))
theorem sZ{rs:List (Int×Int)}{ns:List Int}:∀j,j≤(DX rs ns j).length
 |0=>Nat.zero_le _
 |j+1=>by
  have:=sZ (rs:=rs) (ns:=ns) j;unfold DX;split
  ·rw[List.length_append];simp;omega
  ·rw[List.length_set];omega
theorem mZ{rs:List (Int×Int)}{ns:List Int}:∀j,(DX rs ns j).length≤max rs.length j
 |0=>by simp[DX]
 |j+1=>by
  have:=mZ (rs:=rs) (ns:=ns) j;unfold DX;split
  ·rw[List.length_append];simp;omega
  ·rw[List.length_set];omega
end Go.Wind
namespace Go.Proofs.Tryz.Op
@[simp] theorem BHK:IF Tryz.prog 80=false:=by kernel_rfl
theorem AEG(n:Nat)(a b:Int):A0 Tryz.prog kn (AE Tryz.prog ann kn (n+200)) 125 [.list false [[i a],[i b]]]=some (i (min a b)):=by rw[AP rfl,AR Tryz.func125 BLH rfl (by simp)];have q:=fun n=>AU8 n a b;simp[A9P,AG,q]
theorem ABJ(n:Nat)(r:Int×Int)(x:Int):A0 Tryz.prog kn (AE Tryz.prog ann kn (n+300)) 80 [.agg (DK r),i x]=some (.agg (DK (wid r x))):=by rw[AP rfl,AR Tryz.func80 b80 rfl (by simp[DK])];have q:=fun n=>AEG n r.1 x;simp[c80,AG,DK,wid,q,yC]
theorem BNP{k:Nat}(hk:k≤1000)(a b:Int):B9 Tryz.prog 69 k [[i a,i b]]=true:=by rw[CA (by simp) (by simp)];simp[maxLen];omega
theorem BB2(st:XS):KI [9004000921026] st=eO 26 (K9 4 st) 920 [8] st:=rfl
theorem ATQ(c:Nat)(fr:Fr)(up:List AA):KI [9004000921026] ⟨c,fr,⟨up,[]⟩⟩=⟨c,fr,⟨up,[]⟩⟩:=by rw[BB2];rfl
theorem RA{n k l d a b g o:Nat}(f:Nat):K8 n k l d (f+1) (.vec a b g o)=if a=n∧b=k then .vec l d g o else .vec a b g o:=rfl
theorem BB3(c γ g8 g o:Nat)(T:TypeId)(es:List (List V))(fr:Fr)(L:AA)(R:List AA)(r8:A6)(h3:BE fr 3=some (true,.ptr 0 8 g o))(h8:L.get 8=some (g8,r8)) :
  KI [9004000921026] ⟨c,fr,⟨L::R,[(26,γ,.vec T es)]⟩⟩=⟨c,wO (R.length+1) 26 0 920 fr,⟨((920,γ,SE (R.length+1) 26 0 920 (.vec T es))::(8,g8,SE (R.length+1) 26 0 920 r8)::IQ 8 L)::R,[]⟩⟩:=by
 rw[BB2]
 have e1:K9 4 ⟨c,fr,⟨L::R,[(26,γ,.vec T es)]⟩⟩=0:=by show(match BE fr 3 with|some (true,.ptr l _ _ _)=>l|_=>0)=0;rw[h3]
 rw[e1]
 unfold eO
 have e3:QF 0 (L::R).length (AA.get [(26,γ,.vec T es)] 26)=true:=by simp[QF,AA.get,gA]
 simp only[e3]
 simp[wP,AA.get,mvU,h8,mP,St.put,CW]
structure LvB(c:AO)(ss:List (Int×Int))(o:List (Int×Int))(L:AA)(k:Nat):Prop where
 p2:L.get 2=some (0,.box (AD c))
 p6:L.get 6=some (1,.box [sl ((A2 c ss).map AQ)])
 p8:∃γ,γ<k∧L.get 8=some (2,.box [pvl 0 920 γ (o.map DK)])∧(o≠[]→L.get 920=some (γ,.vec 69 (o.map DK)))
 st:∀t:St,1≤t.up.length→AL t L=L
 b2:2<k
 le:o.length≤10
theorem AKB(t:St)(T:TypeId)(o:List (Int×Int)):CM t (.vec T (o.map DK))=.vec T (o.map DK):=QK fun e he v hv=>by obtain⟨x,_,rfl⟩:=List.mem_map.1 he;simp only[DK,List.mem_cons,List.not_mem_nil,or_false]at hv;rcases hv with rfl|rfl<;>rfl
theorem AP6(c:AO)(ss:List (Int×Int))(rs:List (Int×Int))(ns:List Int)(hrl:rs.length≤10)(hn:ns.length≤10)(L1:AA)(r0:List AA):∀(e j:Nat) (L:AA) (cc:Nat),j+e=ns.length→LvB c ss (DX rs ns j) L cc→∃fr L' c',LvB c ss (DX rs ns ns.length) L' c'∧cc≤c'∧∀n m,e<m→BF (AE Tryz.prog ann kn (n+500) 37) aP (ann 37 (BW aP)) m ⟨cc,[(3,true,.ptr 0 8 2 0),(10,true,.list false (ns.map AJ)),(11,true,i ns.length),(12,true,i j)],⟨L::L1::r0,[]⟩⟩ =
  some (.exit 0,⟨c',fr,⟨L'::L1::r0,[]⟩⟩)
 |0,j,L,cc,hd,hL=>by
  obtain rfl:j=ns.length:=by omega
  refine⟨?fr,L,cc,hL,Nat.le_refl _,fun n m hm=>?g⟩;case g=>
   obtain⟨m,rfl⟩:∃m',m=m'+1:=⟨m-1,by omega⟩
   rw[AB]
   simp
   rfl
 |e+1,j,L,cc,hd,hL=>by
  have hj:j<ns.length:=by omega
  have hw:=BM (k:=j) (by omega);have hnd:ns.getD j 0=ns[j]:=by rw[List.getD_eq_getElem?_getD,List.getElem?_eq_getElem hj];rfl
  obtain⟨p2,p6,⟨γ,hγ,p8,p920⟩,pst,b2,_⟩:=hL;have hle3:=mZ (rs:=rs) (ns:=ns) (j+1);have hle:=sZ (rs:=rs) (ns:=ns) j;have hle2:=mZ (rs:=rs) (ns:=ns) j;by_cases hlen:(DX rs ns j).length=j
  ·have hcur:DX rs ns (j+1)=DX rs ns j++[(ns[j],ns[j])]:=by rw[←hnd];exact if_pos hlen
   have qw:=fun n=>ABJ n (ns[j],ns[j]) ns[j];have hww:wid (ns[j],ns[j]) ns[j]=(ns[j],ns[j]):=by simp[wid]
   rw[hww]at qw;have happ:=BNP (k:=(DX rs ns j).length) (by omega) ns[j] ns[j];have hlI:((DX rs ns j).length:Int)=(j:Int):=by omega
   have hsl:(DX rs ns (j+1)).length=j+1:=by rw[hcur];simp[hlen]
   by_cases hnil:DX rs ns j=[]
   ·have hj0:j=0:=by rw[←hlen,hnil];rfl
    subst hj0;have hL':LvB c ss (DX rs ns (0+1)) ((920,cc,.vec 69 ((DX rs ns (0+1)).map DK))::(920,cc,.vec 69 ((DX rs ns (0+1)).map DK))::(8,2,.box [.vec 0 920 cc 1])::IQ 8 L) (cc+1+1):=by
     refine⟨by simpa using p2,by simpa using p6,⟨cc,by omega,?_,fun _=>by simp⟩,fun t ht=>?_,by omega,by omega⟩
     ·rw[hcur,hnil];simp[xG]
     ·rw[A1,A1,A1,PQ,AKB,pst t ht];have e0:¬0=t.up.length:=by omega
      obtain⟨up,loc⟩:=t;simp only at e0;simp[EO,e0]
    obtain⟨fr,L',c',i1,i2,ih⟩:=AP6 c ss rs ns hrl hn L1 r0 e (0+1) _ (cc+1+1) (by omega) hL';refine⟨fr,L',c',i1,by omega,fun n m hm=>?_⟩;obtain⟨m,rfl⟩:∃m',m=m'+1:=⟨m-1,by omega⟩;have ih:=ih n m (by omega);rw[hcur,hnil]at ih;rw[hnil]at p8 happ hlI;simp only[List.length_nil]at happ;have h2c:2<cc+1:=by omega
    have hgh:=fun c1 fr (h3:BE fr 3=some (true,.ptr 0 8 2 0))=>BB3 c1 cc 2 2 0 69 [[i ns[0],i ns[0]]] fr ((8,2,.box [.vec (r0.length+1+1) 26 cc 1])::L) (L1::r0) _ h3 rfl;have hcc:cc<cc+1+1:=by omega
    generalize DX rs ns ns.length=FF at *;rw[AB];simp only[DK,AJ,AYH,List.map_nil]at qw ih p8 hgh⊢;simp at ih;simp[hj,hw,AJ,p8,hlI,qw,DK,hγ,hcc,h2c,QO,CW,C5,DW,happ,KQ,hgh,I8,GH,G6,GF,KR,RA,F4,GD,ih];exact ih
   ·have p920:=p920 hnil;have hL':LvB c ss (DX rs ns (j+1)) ((920,cc,.vec 69 ((DX rs ns (j+1)).map DK))::(8,2,.box [.vec 0 920 cc (j+1)])::(920,cc,.vec 69 ((DX rs ns (j+1)).map DK))::L) (cc+1+1):=by
     refine⟨by simpa using p2,by simpa using p6,⟨cc,by omega,?_,fun _=>by simp⟩,fun t ht=>?_,by omega,by omega⟩
     ·rw[hcur];generalize DX rs ns j=O at *;cases O with
      |nil=>exact absurd rfl hnil
      |cons x O=>
       simp at hlen
       simp[xG]
       omega
     ·rw[A1,A1,A1,AKB,pst t ht];have e0:¬0=t.up.length:=by omega
      obtain⟨up,loc⟩:=t;simp only at e0;simp[EO,e0]
    obtain⟨fr,L',c',i1,i2,ih⟩:=AP6 c ss rs ns hrl hn L1 r0 e (j+1) _ (cc+1+1) (by omega) hL';refine⟨fr,L',c',i1,by omega,fun n m hm=>?_⟩;obtain⟨m,rfl⟩:∃m',m=m'+1:=⟨m-1,by omega⟩;have ih:=ih n m (by omega);rw[hcur]at ih;have hpv:pvl 0 920 γ ((DX rs ns j).map DK)=.vec 0 920 γ j:=by
     generalize DX rs ns j=O at *;cases O with
     |nil=>exact absurd rfl hnil
     |cons x O=>simp[xG]at hlen⊢;omega
    rw[hpv]at p8;rw[hlen]at happ;have hcc:cc<cc+1+1:=by omega
    have h2c:2<cc+1:=by omega
    have hjj:(j:Int)<(j:Int)+1:=by omega
    have hset:((DX rs ns j).map DK++[[i ns[j],i ns[j]]]).set j [i ns[j],i ns[j]]=(DX rs ns j).map DK++[[i ns[j],i ns[j]]]:=by rw[List.set_append,if_neg (by simp[hlen])];simp[hlen]
    generalize DX rs ns j=O at *;generalize DX rs ns ns.length=FF at *;rw[AB];simp only[DK,AJ]at qw ih p8⊢;simp at ih;simp[hj,hw,AJ,p8,p920,hlen,qw,DK,hγ,hcc,h2c,QO,CW,C5,happ,ATQ,GD,hset,hjj,ih];exact ih
  ·have hgt:j<(DX rs ns j).length:=by omega
   have hcur:DX rs ns (j+1)=(DX rs ns j).set j (wid (DX rs ns j)[j] ns[j]):=by have e2:DX rs ns (j+1)=(DX rs ns j).set j (wid ((DX rs ns j).getD j (0,0)) (ns.getD j 0)):=if_neg hlen;rw[e2,hnd,List.getD_eq_getElem?_getD,List.getElem?_eq_getElem hgt];rfl
   have qw:=fun n=>ABJ n (DX rs ns j)[j] ns[j];have hne:DX rs ns j≠[]:=fun h=>by rw[h]at hgt;simp at hgt
   have p920:=p920 hne;have hL':LvB c ss (DX rs ns (j+1)) ((920,γ,.vec 69 ((DX rs ns (j+1)).map DK))::L) (cc+1):=by
    refine⟨by simpa using p2,by simpa using p6,⟨γ,by omega,?_,fun _=>by simp⟩,fun t ht=>?_,by omega,by omega⟩
    ·rw[hcur];generalize DX rs ns j=O at *;cases O with
     |nil=>simp at hgt
     |cons x O=>
      cases hs:(x::O).set j (wid (x::O)[j] ns[j])with
      |nil=>simpa using congrArg List.length hs
      |cons y O'=>
       have hl:=congrArg List.length hs
       simp at hl
       simp[xG]at p8
       simp[xG,p8,hl]
    ·rw[A1,pst t ht,AKB]
   obtain⟨fr,L',c',i1,i2,ih⟩:=AP6 c ss rs ns hrl hn L1 r0 e (j+1) _ (cc+1) (by omega) hL';refine⟨fr,L',c',i1,by omega,fun n m hm=>?_⟩;obtain⟨m,rfl⟩:∃m',m=m'+1:=⟨m-1,by omega⟩;have ih:=ih n m (by omega);rw[hcur]at ih;have hpv:pvl 0 920 γ ((DX rs ns j).map DK)=.vec 0 920 γ (DX rs ns j).length:=by
    generalize DX rs ns j=O at *;cases O with
    |nil=>simp at hgt
    |cons x O=>simp[xG]
   rw[hpv]at p8;have hlI:¬((DX rs ns j).length:Int)=(j:Int):=by omega
   rw[List.map_set]at ih;have hgc:γ<cc+1:=by omega
   have hat:((DX rs ns j).map DK)[j]? = some (DK (DX rs ns j)[j]):=by rw[List.getElem?_map,List.getElem?_eq_getElem hgt];rfl
   generalize hO:(DX rs ns j)[j]=x at *;generalize DX rs ns j=O at *;generalize DX rs ns ns.length=FF at *;rw[AB];simp only[DK]at qw ih⊢;simp at ih;simp[hj,hw,AJ,p8,p920,hlI,hgt,hO,qw,DK,hγ,hgc,QO,C5,ATQ,ih]
end Go.Proofs.Tryz.Op
