/- Contracts: wider; what Bounds does in a truth. No condition but a valid case. -/
import Derived.Test.YthhdhbalenanjaaGreatS1
import Derived.Test.YthhdhbalenanjaaGreatX1
import Derived.Test.YthhdhbalenanjaaGreatFz
import Derived.Test.YthhdhbalenanjaaGreatA1
set_option maxRecDepth 100000
set_option linter.unusedSimpArgs false
open Go Go.Pg Go.Proofs Go.Wind
namespace Go.Wind
def wid(r:Int×Int)(n:Int):Int×Int:=(min r.1 n,max r.2 n)
def CU(rs:List (Int×Int))(ns:List Int):Nat→List (Int×Int)
 |0=>rs
 |j+1=>if (CU rs ns j).length=j then CU rs ns j++[(ns.getD j 0,ns.getD j 0)] else(CU rs ns j).set j (wid ((CU rs ns j).getD j (0,0)) (ns.getD j 0))
theorem mR{rs:List (Int×Int)}{ns:List Int}:∀j,j≤(CU rs ns j).length
 |0=>Nat.zero_le _
 |j+1=>by
  have:=mR (rs:=rs) (ns:=ns) j;unfold CU;split
  ·rw[List.length_append];simp;omega
  ·rw[List.length_set];omega
theorem gY{rs:List (Int×Int)}{ns:List Int}:∀j,(CU rs ns j).length≤max rs.length j
 |0=>by simp[CU]
 |j+1=>by
  have:=gY (rs:=rs) (ns:=ns) j;unfold CU;split
  ·rw[List.length_append];simp;omega
  ·rw[List.length_set];omega
end Go.Wind
namespace Go.Proofs.Tryz.Op
@[simp] theorem A9T:J5 Tryz.prog 80=false:=by kernel_rfl
theorem yC(n:Nat)(a b:Int):AW Tryz.prog kn (AE Tryz.prog ann kn (n+200)) 125 [.list false [[i a],[i b]]]=some (i (min a b)):=by rw[AP rfl,AO Tryz.func125 BDN rfl (by simp)];have q:=fun n=>AOL n a b;simp[A1X,AG,q]
theorem uR(n:Nat)(r:Int×Int)(x:Int):AW Tryz.prog kn (AE Tryz.prog ann kn (n+300)) 80 [.agg (DX r),i x]=some (.agg (DX (wid r x))):=by rw[AP rfl,AO Tryz.func80 b80 rfl (by simp[DX])];have q:=fun n=>yC n r.1 x;simp[c80,AG,DX,wid,q,AFU]
theorem BFN{k:Nat}(hk:k≤1000)(a b:Int):B4 Tryz.prog 69 k [[i a,i b]]=true:=by rw[CA (by simp) (by simp)];simp[maxLen];omega
theorem A39(st:XS):LY [9004000921026] st=gQ 26 (OW 4 st) 920 [8] st:=rfl
theorem AM2(c:Nat)(fr:Fr)(up:List AA):LY [9004000921026] ⟨c,fr,⟨up,[]⟩⟩=⟨c,fr,⟨up,[]⟩⟩:=by rw[A39];rfl
theorem AJV{n k l d a b g o:Nat}(f:Nat):KH n k l d (f+1) (.vec a b g o)=if a=n∧b=k then .vec l d g o else .vec a b g o:=rfl
theorem A4A(c γ g8 g o:Nat)(T:TypeId)(es:List (List V))(fr:Fr)(L:AA)(R:List AA)(r8:AX)(h3:BQ fr 3=some (true,.ptr 0 8 g o))(h8:L.get 8=some (g8,r8)) :
  LY [9004000921026] ⟨c,fr,⟨L::R,[(26,γ,.vec T es)]⟩⟩=⟨c,xV (R.length+1) 26 0 920 fr,⟨((920,γ,WQ (R.length+1) 26 0 920 (.vec T es))::(8,g8,WQ (R.length+1) 26 0 920 r8)::J7 8 L)::R,[]⟩⟩:=by
 rw[A39]
 have e1:OW 4 ⟨c,fr,⟨L::R,[(26,γ,.vec T es)]⟩⟩=0:=by show(match BQ fr 3 with|some (true,.ptr l _ _ _)=>l|_=>0)=0;rw[h3]
 rw[e1]
 unfold gQ
 have e3:VG 0 (L::R).length (AA.get [(26,γ,.vec T es)] 26)=true:=by simp[VG,AA.get,dI]
 simp only[e3]
 simp[xW,AA.get,zR,h8,mE,St.put,IC]
structure LvB(c:A0)(ss:List (Int×Int))(o:List (Int×Int))(L:AA)(k:Nat):Prop where
 p2:L.get 2=some (0,.box (AD c))
 p6:L.get 6=some (1,.box [sl ((BA c ss).map A1)])
 p8:∃γ,γ<k∧L.get 8=some (2,.box [pvl 0 920 γ (o.map DX)])∧(o≠[]→L.get 920=some (γ,.vec 69 (o.map DX)))
 st:∀t:St,1≤t.up.length→AN t L=L
 b2:2<k
 le:o.length≤10
theorem AD9(t:St)(T:TypeId)(o:List (Int×Int)):CK t (.vec T (o.map DX))=.vec T (o.map DX):=O3 fun e he v hv=>by obtain⟨x,_,rfl⟩:=List.mem_map.1 he;simp only[DX,List.mem_cons,List.not_mem_nil,or_false]at hv;rcases hv with rfl|rfl<;>rfl
theorem AJW(c:A0)(ss:List (Int×Int))(rs:List (Int×Int))(ns:List Int)(hrl:rs.length≤10)(hn:ns.length≤10)(L1:AA)(r0:List AA):∀(e j:Nat) (L:AA) (cc:Nat),j+e=ns.length→LvB c ss (CU rs ns j) L cc→∃fr L' c',LvB c ss (CU rs ns ns.length) L' c'∧cc≤c'∧∀n m,e<m→A9 (AE Tryz.prog ann kn (n+500) 37) XQ (ann 37 (BS XQ)) m ⟨cc,[(3,true,.ptr 0 8 2 0),(10,true,.list false (ns.map AH)),(11,true,i ns.length),(12,true,i j)],⟨L::L1::r0,[]⟩⟩ =
  some (.exit 0,⟨c',fr,⟨L'::L1::r0,[]⟩⟩)
 |0,j,L,cc,hd,hL=>by
  obtain rfl:j=ns.length:=by omega
  refine⟨?fr,L,cc,hL,Nat.le_refl _,fun n m hm=>?g⟩;case g=>
   obtain⟨m,rfl⟩:∃m',m=m'+1:=⟨m-1,by omega⟩
   rw[AB]
   simp
   rfl
 |e+1,j,L,cc,hd,hL=>by
  have hj:j<ns.length:=by omega
  have hw:=BJ (k:=j) (by omega);have hnd:ns.getD j 0=ns[j]:=by rw[List.getD_eq_getElem?_getD,List.getElem?_eq_getElem hj];rfl
  obtain⟨p2,p6,⟨γ,hγ,p8,p920⟩,pst,b2,_⟩:=hL;have hle3:=gY (rs:=rs) (ns:=ns) (j+1);have hle:=mR (rs:=rs) (ns:=ns) j;have hle2:=gY (rs:=rs) (ns:=ns) j;by_cases hlen:(CU rs ns j).length=j
  ·have hcur:CU rs ns (j+1)=CU rs ns j++[(ns[j],ns[j])]:=by rw[←hnd];exact if_pos hlen
   have qw:=fun n=>uR n (ns[j],ns[j]) ns[j];have hww:wid (ns[j],ns[j]) ns[j]=(ns[j],ns[j]):=by simp[wid]
   rw[hww]at qw;have happ:=BFN (k:=(CU rs ns j).length) (by omega) ns[j] ns[j];have hlI:((CU rs ns j).length:Int)=(j:Int):=by omega
   have hsl:(CU rs ns (j+1)).length=j+1:=by rw[hcur];simp[hlen]
   by_cases hnil:CU rs ns j=[]
   ·have hj0:j=0:=by rw[←hlen,hnil];rfl
    subst hj0;have hL':LvB c ss (CU rs ns (0+1)) ((920,cc,.vec 69 ((CU rs ns (0+1)).map DX))::(920,cc,.vec 69 ((CU rs ns (0+1)).map DX))::(8,2,.box [.vec 0 920 cc 1])::J7 8 L) (cc+1+1):=by
     refine⟨by simpa using p2,by simpa using p6,⟨cc,by omega,?_,fun _=>by simp⟩,fun t ht=>?_,by omega,by omega⟩
     ·rw[hcur,hnil];simp[RD]
     ·rw[BE,BE,BE,YG,AD9,pst t ht];have e0:¬0=t.up.length:=by omega
      obtain⟨up,loc⟩:=t;simp only at e0;simp[K2,e0]
    obtain⟨fr,L',c',i1,i2,ih⟩:=AJW c ss rs ns hrl hn L1 r0 e (0+1) _ (cc+1+1) (by omega) hL';refine⟨fr,L',c',i1,by omega,fun n m hm=>?_⟩;obtain⟨m,rfl⟩:∃m',m=m'+1:=⟨m-1,by omega⟩;have ih:=ih n m (by omega);rw[hcur,hnil]at ih;rw[hnil]at p8 happ hlI;simp only[List.length_nil]at happ;have h2c:2<cc+1:=by omega
    have hgh:=fun c1 fr (h3:BQ fr 3=some (true,.ptr 0 8 2 0))=>A4A c1 cc 2 2 0 69 [[i ns[0],i ns[0]]] fr ((8,2,.box [.vec (r0.length+1+1) 26 cc 1])::L) (L1::r0) _ h3 rfl;have hcc:cc<cc+1+1:=by omega
    generalize CU rs ns ns.length=FF at *;rw[AB];simp only[DX,AH,aN,List.map_nil]at qw ih p8 hgh⊢;simp at ih;simp[hj,hw,AH,p8,hlI,qw,DX,hγ,hcc,h2c,KA,IC,E1,EQ,happ,jB,hgh,cQ,KR,MC,KQ,jC,AJV,JR,F9,ih];exact ih
   ·have p920:=p920 hnil;have hL':LvB c ss (CU rs ns (j+1)) ((920,cc,.vec 69 ((CU rs ns (j+1)).map DX))::(8,2,.box [.vec 0 920 cc (j+1)])::(920,cc,.vec 69 ((CU rs ns (j+1)).map DX))::L) (cc+1+1):=by
     refine⟨by simpa using p2,by simpa using p6,⟨cc,by omega,?_,fun _=>by simp⟩,fun t ht=>?_,by omega,by omega⟩
     ·rw[hcur];generalize CU rs ns j=O at *;cases O with
      |nil=>exact absurd rfl hnil
      |cons x O=>
       simp at hlen
       simp[RD]
       omega
     ·rw[BE,BE,BE,AD9,pst t ht];have e0:¬0=t.up.length:=by omega
      obtain⟨up,loc⟩:=t;simp only at e0;simp[K2,e0]
    obtain⟨fr,L',c',i1,i2,ih⟩:=AJW c ss rs ns hrl hn L1 r0 e (j+1) _ (cc+1+1) (by omega) hL';refine⟨fr,L',c',i1,by omega,fun n m hm=>?_⟩;obtain⟨m,rfl⟩:∃m',m=m'+1:=⟨m-1,by omega⟩;have ih:=ih n m (by omega);rw[hcur]at ih;have hpv:pvl 0 920 γ ((CU rs ns j).map DX)=.vec 0 920 γ j:=by
     generalize CU rs ns j=O at *;cases O with
     |nil=>exact absurd rfl hnil
     |cons x O=>simp[RD]at hlen⊢;omega
    rw[hpv]at p8;rw[hlen]at happ;have hcc:cc<cc+1+1:=by omega
    have h2c:2<cc+1:=by omega
    have hjj:(j:Int)<(j:Int)+1:=by omega
    have hset:((CU rs ns j).map DX++[[i ns[j],i ns[j]]]).set j [i ns[j],i ns[j]]=(CU rs ns j).map DX++[[i ns[j],i ns[j]]]:=by rw[List.set_append,if_neg (by simp[hlen])];simp[hlen]
    generalize CU rs ns j=O at *;generalize CU rs ns ns.length=FF at *;rw[AB];simp only[DX,AH]at qw ih p8⊢;simp at ih;simp[hj,hw,AH,p8,p920,hlen,qw,DX,hγ,hcc,h2c,KA,IC,E1,happ,AM2,F9,hset,hjj,ih];exact ih
  ·have hgt:j<(CU rs ns j).length:=by omega
   have hcur:CU rs ns (j+1)=(CU rs ns j).set j (wid (CU rs ns j)[j] ns[j]):=by have e2:CU rs ns (j+1)=(CU rs ns j).set j (wid ((CU rs ns j).getD j (0,0)) (ns.getD j 0)):=if_neg hlen;rw[e2,hnd,List.getD_eq_getElem?_getD,List.getElem?_eq_getElem hgt];rfl
   have qw:=fun n=>uR n (CU rs ns j)[j] ns[j];have hne:CU rs ns j≠[]:=fun h=>by rw[h]at hgt;simp at hgt
   have p920:=p920 hne;have hL':LvB c ss (CU rs ns (j+1)) ((920,γ,.vec 69 ((CU rs ns (j+1)).map DX))::L) (cc+1):=by
    refine⟨by simpa using p2,by simpa using p6,⟨γ,by omega,?_,fun _=>by simp⟩,fun t ht=>?_,by omega,by omega⟩
    ·rw[hcur];generalize CU rs ns j=O at *;cases O with
     |nil=>simp at hgt
     |cons x O=>
      cases hs:(x::O).set j (wid (x::O)[j] ns[j])with
      |nil=>simpa using congrArg List.length hs
      |cons y O'=>
       have hl:=congrArg List.length hs
       simp at hl
       simp[RD]at p8
       simp[RD,p8,hl]
    ·rw[BE,pst t ht,AD9]
   obtain⟨fr,L',c',i1,i2,ih⟩:=AJW c ss rs ns hrl hn L1 r0 e (j+1) _ (cc+1) (by omega) hL';refine⟨fr,L',c',i1,by omega,fun n m hm=>?_⟩;obtain⟨m,rfl⟩:∃m',m=m'+1:=⟨m-1,by omega⟩;have ih:=ih n m (by omega);rw[hcur]at ih;have hpv:pvl 0 920 γ ((CU rs ns j).map DX)=.vec 0 920 γ (CU rs ns j).length:=by
    generalize CU rs ns j=O at *;cases O with
    |nil=>simp at hgt
    |cons x O=>simp[RD]
   rw[hpv]at p8;have hlI:¬((CU rs ns j).length:Int)=(j:Int):=by omega
   rw[List.map_set]at ih;have hgc:γ<cc+1:=by omega
   have hat:((CU rs ns j).map DX)[j]? = some (DX (CU rs ns j)[j]):=by rw[List.getElem?_map,List.getElem?_eq_getElem hgt];rfl
   generalize hO:(CU rs ns j)[j]=x at *;generalize CU rs ns j=O at *;generalize CU rs ns ns.length=FF at *;rw[AB];simp only[DX]at qw ih⊢;simp at ih;simp[hj,hw,AH,p8,p920,hlI,hgt,hO,qw,DX,hγ,hgc,KA,E1,AM2,ih]
def E3(c:A0)(ss:List (Int×Int))(t:List Int):List Int:=(BA c ss).map (JN (HY c t))
def CG(c:A0)(ss:List (Int×Int)):List (Int×Int):=(JG c.beach).foldl (fun rs t=>CU rs (E3 c ss t) (E3 c ss t).length) []
theorem LvB.more{c:A0}{ss:List (Int×Int)}{o:List (Int×Int)}{L:AA}{k k':Nat}(h:LvB c ss o L k)(hk:k≤k'):LvB c ss o L k':=by obtain⟨p2,p6,⟨γ,h1,h2⟩,p4,p5,p6'⟩:=h;exact⟨p2,p6,⟨γ,by omega,h2⟩,p4,by omega,p6'⟩
theorem AB6(c:A0)(hc:D8 c)(ss:List (Int×Int))(hs:EP c ss=true):AD7 c (LvB c ss) (fun rs t=>CU rs (E3 c ss t) (E3 c ss t).length) 79 [.ptr 0 2 0 0,.ptr 0 6 1 0,.ptr 0 8 2 0] 2 2000:=by
 intro a L L1 rs cc fr t hL hg ht hst;have hlt:AV t c.beach.winds=true:=JB (H1.2 ht);have qs:=fun n=>AOW n c hc ss hs t hlt;obtain⟨h1,h2⟩:=GU hc hs;have hfl:=hc.fl;have hsl:(BA c ss).length=c.fams.length:=D0 h1;have hnl:(E3 c ss t).length=c.fams.length:=by simp[E3,hsl]
 by_cases hf:c.fams=[]
 ·have hs0:BA c ss=[]:=List.eq_nil_of_length_eq_zero (by rw[hsl,hf];rfl);have hn0:E3 c ss t=[]:=by rw[E3,hs0];rfl
  have hL0:=hL;obtain⟨p2,p6,_,pst,_,_⟩:=hL;obtain⟨⟨e1,e2,e3⟩,_⟩:=hst ⟨L::L1::(rs++[[]]),[]⟩ (by simp);refine⟨L,cc,by simpa [hn0,CU]using hL0,Nat.le_refl _,fun n=>?_⟩;rw[BG Tryz.func79 b79 rfl (by simp)];rw[hs0]at qs p6;have slnil:sl ([]:List (List V))=.nil:=rfl;simp only[List.map_nil,slnil]at qs p6;generalize HY c t=H at *;simp only[AD,AC]at qs p2⊢;simp[c79,AG,AH,AL,AF,AR,AY,AQ,BO,CH,p2,p6,qs,AB,e1,e2,e3];done
 ·have hf3:=List.length_pos_iff.2 hf;have hne:E3 c ss t≠[]:=fun e=>by rw[e]at hnl;simp at hnl;omega
  have hsne:(BA c ss)≠[]:=fun e=>by rw[e]at hsl;simp at hsl;omega
  rw[show(BA c ss).map (JN (HY c t))=E3 c ss t from rfl]at qs;have qs':=fun n=>(qs n).trans (congrArg some (slX hne));obtain⟨fr',L',c',i1,i2,ih⟩:=AJW c ss a (E3 c ss t) hL.le (by omega) L1 (rs++[[]]) (E3 c ss t).length 0 L cc (by omega) hL;refine⟨L',c',i1,i2,fun n=>?_⟩;rw[BG Tryz.func79 b79 rfl (by simp)];obtain⟨p2,p6,_,pst,_,_⟩:=hL;obtain⟨_,_,_,pst',_,_⟩:=i1;rw[slX hsne]at p6;obtain⟨⟨_,e2,e3⟩,_⟩:=hst ⟨L'::L1::(rs++[[]]),[]⟩ (by simp);have e1:=pst' ⟨L'::L1::(rs++[[]]),[]⟩ (by simp);have ih:=ih (n+1497) (n+1997) (by omega);generalize E3 c ss t=ns at *;generalize BA c ss=S at *;generalize HY c t=H at *;simp only[AD,AC]at qs' p2⊢;simp at ih;simp[c79,AG,AH,AL,AF,AR,AY,AQ,BO,CH,A1,p2,p6,qs',ih,e1,e2,e3];done
theorem AEA(n:Nat)(c:A0)(h40:∀l∈c.beach.winds,l.length≤40)(hch:c.chairs.length≤40)(ss:List (Int×Int)):AW Tryz.prog kn (AE Tryz.prog ann kn (n+9000)) 30 [.agg (AD c),.list false (ss.map AF)]=some (.tup [sl ((if F1 c ss=0 then CG c ss else[]).map DX),i (F1 c ss)]):=by
 rw[AP rfl,AO Tryz.func30 b30 rfl (by simp[AD,AH,AL,AF,AR,AY,AQ])];have slnil:sl ([]:List (List V))=.nil:=rfl;have qa:=fun n=>AJT n c h40 hch ss;by_cases h:F1 c ss=0
 ·rw[h]at qa⊢;rw[if_pos rfl]at qa⊢;have hf:EJ c=0:=by
   unfold F1 at h;by_cases h0:EJ c=0
   ·exact h0
   ·rw[if_pos h0]at h;exact absurd h h0
  have hs:EP c ss=true:=by
   unfold F1 at h;rw[if_neg (by simp[hf])]at h;by_cases h0:EP c ss=true
   ·exact h0
   ·rw[if_neg h0]at h;cases h
  have hc:=PD hf;have hL:LvB c ss [] [(2,0,.box (AD c)),(6,1,.box [sl ((BA c ss).map A1)]),(8,2,.box [.nil])] 3:=by refine⟨by simp,by simp,⟨2,by omega,by simp[aN],fun h=>absurd rfl h⟩,fun t ht=>?_,by omega,by simp⟩;obtain⟨up,loc⟩:=t;simp[D4,K2,AD,AH,AL,AF,AR,AY,AQ]
  obtain⟨L',c',r1,r2,r3⟩:=AD8 hc (fun _ _ _ _ h hk=>h.more hk) (fun _ _ _ h=>h.st) (AB6 c hc ss hs) rfl (fun t ht=>by
   have e0:¬0=t.up.length:=by omega
   obtain⟨up,loc⟩:=t;simp only at e0;simp[e0]) ⟨.ptr 0 2 0 0,by simp,rfl⟩ [] _ 3 hL 20 (by omega) [(19,true,.fn 79 [] [.ptr 0 2 0 0,.ptr 0 6 1 0,.ptr 0 8 2 0]),(18,true,.agg (AD c)),(2,true,.ptr 0 2 0 0),(6,true,.ptr 0 6 1 0),(8,true,.ptr 0 8 2 0)]
  obtain⟨p2,p6,⟨γ,hγ,p8,p920⟩,pst,b2,hle⟩:=r1;have r3:=r3 (n+1994);rw[show n+1994+2000+5000=n+8994 from rfl]at r3;rw[show(JG c.beach).foldl (fun rs t=>CU rs (E3 c ss t) (E3 c ss t).length) []=CG c ss from rfl]at *;generalize CG c ss=O at *;simp only[AD,AC]at qa r3⊢;simp[c30,AG,AH,AL,AF,AR,AY,AQ,qa,r3,p2,p6,p8];cases O with
  |nil=>
   generalize L'.get 920=z
   generalize L'.get 12=y
   rcases z with _|⟨z1,z2⟩<;>rcases y with _|⟨y1,y2⟩<;>simp[aN,slnil]
  |cons x O=>
   have p920:=p920 (by simp)
   generalize L'.get 12=y
   rcases y with _|⟨y1,y2⟩<;>simp[RD,p920,sl,List.take_of_length_le,DX]
 ·rw[if_neg h]at qa⊢;simp only[List.map_nil,slnil]at qa⊢;generalize F1 c ss=e at *;simp only[AD,AC]at qa⊢;simp[c30,AG,AH,AL,AF,AR,AY,AQ,qa,h];done
def BFO(H:List (List FW))(x:Sp):List FW:=((H.getD x.row.toNat []).take (x.place+x.size).toNat).drop x.place.toNat
def A4B(good:Int)(H:List (List FW))(x:Sp):Bool:=(BFO H x).all fun h=>decide (good≤h.good)
def AJX(c:A0)(S:List Sp)(H:List (List FW))(o:List Int):Nat→List Int
 |0=>o
 |k+1=>if A4B ((c.fams.map (·.good)).getD k 0) H (S.getD k ⟨0,0,0,0⟩)=true then(AJX c S H o k).set k (IntKind.i64.wrap ((AJX c S H o k).getD k 0+1)) else AJX c S H o k
structure LvC(c:A0)(ss:List (Int×Int))(o:List Int×Int)(L:AA)(k:Nat):Prop where
 p2:L.get 2=some (0,.box (AD c))
 p6:L.get 6=some (1,.box [sl ((BA c ss).map A1)])
 p8:L.get 8=some (2,.box [.fn 81 [] []])
 p9:L.get 9=some (4,.box [.vec 0 25 3 o.1.length])
 p10:L.get 10=some (5,.box [i o.2])
 p25:L.get 25=some (3,.vec 3 (o.1.map AH))
 st:∀t:St,1≤t.up.length→AN t L=L
 b2:5<k
 le:o.1.length=c.fams.length
def A4C(c:A0)(ss:List (Int×Int))(o:List Int×Int)(t:List Int):List Int×Int:=(AJX c (BA c ss) (HY c t) o.1 (BA c ss).length,IntKind.i64.wrap (o.2+1))
theorem LvC.more{c:A0}{ss:List (Int×Int)}{o:List Int×Int}{L:AA}{k k':Nat}(h:LvC c ss o L k)(hk:k≤k'):LvC c ss o L k':=by obtain⟨p2,p6,p8,p9,p10,p25,p4,p5,p7⟩:=h;exact⟨p2,p6,p8,p9,p10,p25,p4,by omega,p7⟩
def A4D(nn x:Int):Int:=if x=nn then 1 else if x=0 then 2 else 3
def BPA(nn:Int)(cs:List Int)(k:Nat):List Int:=(cs.take k).map (A4D nn)++cs.drop k
def lvN(X2 X6 X8:AX)(z:Option (Nat×AX))(nn:Int)(cs:List Int):AA:=(2,0,X2)::(6,1,X6)::(8,2,X8)::(9,4,.box [.vec 0 25 3 cs.length])::(10,5,.box [i nn])::kl 16 [(25,3,.vec 3 (cs.map AH))] z
def AM3(c:A0)(ss:List (Int×Int)):List Int×Int:=(JG c.beach).foldl (A4C c ss) (List.replicate c.fams.length 0,0)
def A4E(c:A0)(ss:List (Int×Int)):List Int:=(AM3 c ss).1.map (A4D (AM3 c ss).2)
end Go.Proofs.Tryz.Op
