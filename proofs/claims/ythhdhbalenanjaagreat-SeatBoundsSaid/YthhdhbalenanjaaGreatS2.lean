/- Contracts: wider; what Bounds does in a truth. No condition but a valid case. -/
import Derived.Test.YthhdhbalenanjaaGreatS1
import Derived.Test.YthhdhbalenanjaaGreatX1
import Derived.Test.YthhdhbalenanjaaGreatFz
import Derived.Test.YthhdhbalenanjaaGreatA1
set_option maxRecDepth 100000
set_option linter.unusedSimpArgs false
open Go Go.Pg Go.Proofs Go.Wind
namespace Go.Wind
def wid(r:Int×Int)(n:Int):Int×Int:=(min r.1 n,max r.2 n)
def CV(rs:List (Int×Int))(ns:List Int):Nat→List (Int×Int)
 |0=>rs
 |j+1=>if (CV rs ns j).length=j then CV rs ns j++[(ns.getD j 0,ns.getD j 0)] else(CV rs ns j).set j (wid ((CV rs ns j).getD j (0,0)) (ns.getD j 0))
theorem mY{rs:List (Int×Int)}{ns:List Int}:∀j,j≤(CV rs ns j).length
 |0=>Nat.zero_le _
 |j+1=>by
  have:=mY (rs:=rs) (ns:=ns) j;unfold CV;split
  ·rw[List.length_append];simp;omega
  ·rw[List.length_set];omega
theorem iC{rs:List (Int×Int)}{ns:List Int}:∀j,(CV rs ns j).length≤max rs.length j
 |0=>by simp[CV]
 |j+1=>by
  have:=iC (rs:=rs) (ns:=ns) j;unfold CV;split
  ·rw[List.length_append];simp;omega
  ·rw[List.length_set];omega
end Go.Wind
namespace Go.Proofs.Tryz.Op
@[simp] theorem BAF:J6 Tryz.prog 80=false:=by kernel_rfl
theorem yQ(n:Nat)(a b:Int):AW Tryz.prog kn (AE Tryz.prog ann kn (n+200)) 125 [.list false [[i a],[i b]]]=some (i (min a b)):=by rw[AQ rfl,AP Tryz.func125 BEI rfl (by simp)];have q:=fun n=>AO2 n a b;simp[A2M,AF,q]
theorem vF(n:Nat)(r:Int×Int)(x:Int):AW Tryz.prog kn (AE Tryz.prog ann kn (n+300)) 80 [.agg (DT r),i x]=some (.agg (DT (wid r x))):=by rw[AQ rfl,AP Tryz.func80 b80 rfl (by simp[DT])];have q:=fun n=>yQ n r.1 x;simp[c80,AF,DT,wid,q,AGB]
theorem BF7{k:Nat}(hk:k≤1000)(a b:Int):CA Tryz.prog 69 k [[i a,i b]]=true:=by rw[CH (by simp) (by simp)];simp[maxLen];omega
theorem A4W(st:XS):L8 [9004000921026] st=gW 26 (O1 4 st) 920 [8] st:=rfl
theorem ANK(c:Nat)(fr:Fr)(up:List AA):L8 [9004000921026] ⟨c,fr,⟨up,[]⟩⟩=⟨c,fr,⟨up,[]⟩⟩:=by rw[A4W];rfl
theorem AKF{n k l d a b g o:Nat}(f:Nat):KI n k l d (f+1) (.vec a b g o)=if a=n∧b=k then .vec l d g o else .vec a b g o:=rfl
theorem A4X(c γ g8 g o:Nat)(T:TypeId)(es:List (List V))(fr:Fr)(L:AA)(R:List AA)(r8:AZ)(h3:BZ fr 3=some (true,.ptr 0 8 g o))(h8:L.get 8=some (g8,r8)) :
  L8 [9004000921026] ⟨c,fr,⟨L::R,[(26,γ,.vec T es)]⟩⟩=⟨c,yJ (R.length+1) 26 0 920 fr,⟨((920,γ,WV (R.length+1) 26 0 920 (.vec T es))::(8,g8,WV (R.length+1) 26 0 920 r8)::J8 8 L)::R,[]⟩⟩:=by
 rw[A4W]
 have e1:O1 4 ⟨c,fr,⟨L::R,[(26,γ,.vec T es)]⟩⟩=0:=by show(match BZ fr 3 with|some (true,.ptr l _ _ _)=>l|_=>0)=0;rw[h3]
 rw[e1]
 unfold gW
 have e3:VM 0 (L::R).length (AA.get [(26,γ,.vec T es)] 26)=true:=by simp[VM,AA.get,dP]
 simp only[e3]
 simp[yK,AA.get,mvU,h8,mK,St.put,IE]
structure LvB(c:A3)(ss:List (Int×Int))(o:List (Int×Int))(L:AA)(k:Nat):Prop where
 p2:L.get 2=some (0,.box (AD c))
 p6:L.get 6=some (1,.box [sl ((AY c ss).map AX)])
 p8:∃γ,γ<k∧L.get 8=some (2,.box [pvl 0 920 γ (o.map DT)])∧(o≠[]→L.get 920=some (γ,.vec 69 (o.map DT)))
 st:∀t:St,1≤t.up.length→AL t L=L
 b2:2<k
 le:o.length≤10
theorem AEM(t:St)(T:TypeId)(o:List (Int×Int)):CJ t (.vec T (o.map DT))=.vec T (o.map DT):=O9 fun e he v hv=>by obtain⟨x,_,rfl⟩:=List.mem_map.1 he;simp only[DT,List.mem_cons,List.not_mem_nil,or_false]at hv;rcases hv with rfl|rfl<;>rfl
theorem AKG(c:A3)(ss:List (Int×Int))(rs:List (Int×Int))(ns:List Int)(hrl:rs.length≤10)(hn:ns.length≤10)(L1:AA)(r0:List AA):∀(e j:Nat) (L:AA) (cc:Nat),j+e=ns.length→LvB c ss (CV rs ns j) L cc→∃fr L' c',LvB c ss (CV rs ns ns.length) L' c'∧cc≤c'∧∀n m,e<m→BC (AE Tryz.prog ann kn (n+500) 37) YJ (ann 37 (BR YJ)) m ⟨cc,[(3,true,.ptr 0 8 2 0),(10,true,.list false (ns.map AH)),(11,true,i ns.length),(12,true,i j)],⟨L::L1::r0,[]⟩⟩ =
  some (.exit 0,⟨c',fr,⟨L'::L1::r0,[]⟩⟩)
 |0,j,L,cc,hd,hL=>by
  obtain rfl:j=ns.length:=by omega
  refine⟨?fr,L,cc,hL,Nat.le_refl _,fun n m hm=>?g⟩;case g=>
   obtain⟨m,rfl⟩:∃m',m=m'+1:=⟨m-1,by omega⟩
   rw[AC]
   simp
   rfl
 |e+1,j,L,cc,hd,hL=>by
  have hj:j<ns.length:=by omega
  have hw:=BH (k:=j) (by omega);have hnd:ns.getD j 0=ns[j]:=by rw[List.getD_eq_getElem?_getD,List.getElem?_eq_getElem hj];rfl
  obtain⟨p2,p6,⟨γ,hγ,p8,p920⟩,pst,b2,_⟩:=hL;have hle3:=iC (rs:=rs) (ns:=ns) (j+1);have hle:=mY (rs:=rs) (ns:=ns) j;have hle2:=iC (rs:=rs) (ns:=ns) j;by_cases hlen:(CV rs ns j).length=j
  ·have hcur:CV rs ns (j+1)=CV rs ns j++[(ns[j],ns[j])]:=by rw[←hnd];exact if_pos hlen
   have qw:=fun n=>vF n (ns[j],ns[j]) ns[j];have hww:wid (ns[j],ns[j]) ns[j]=(ns[j],ns[j]):=by simp[wid]
   rw[hww]at qw;have happ:=BF7 (k:=(CV rs ns j).length) (by omega) ns[j] ns[j];have hlI:((CV rs ns j).length:Int)=(j:Int):=by omega
   have hsl:(CV rs ns (j+1)).length=j+1:=by rw[hcur];simp[hlen]
   by_cases hnil:CV rs ns j=[]
   ·have hj0:j=0:=by rw[←hlen,hnil];rfl
    subst hj0;have hL':LvB c ss (CV rs ns (0+1)) ((920,cc,.vec 69 ((CV rs ns (0+1)).map DT))::(920,cc,.vec 69 ((CV rs ns (0+1)).map DT))::(8,2,.box [.vec 0 920 cc 1])::J8 8 L) (cc+1+1):=by
     refine⟨by simpa using p2,by simpa using p6,⟨cc,by omega,?_,fun _=>by simp⟩,fun t ht=>?_,by omega,by omega⟩
     ·rw[hcur,hnil];simp[RH]
     ·rw[A5,A5,A5,YP,AEM,pst t ht];have e0:¬0=t.up.length:=by omega
      obtain⟨up,loc⟩:=t;simp only at e0;simp[FS,e0]
    obtain⟨fr,L',c',i1,i2,ih⟩:=AKG c ss rs ns hrl hn L1 r0 e (0+1) _ (cc+1+1) (by omega) hL';refine⟨fr,L',c',i1,by omega,fun n m hm=>?_⟩;obtain⟨m,rfl⟩:∃m',m=m'+1:=⟨m-1,by omega⟩;have ih:=ih n m (by omega);rw[hcur,hnil]at ih;rw[hnil]at p8 happ hlI;simp only[List.length_nil]at happ;have h2c:2<cc+1:=by omega
    have hgh:=fun c1 fr (h3:BZ fr 3=some (true,.ptr 0 8 2 0))=>A4X c1 cc 2 2 0 69 [[i ns[0],i ns[0]]] fr ((8,2,.box [.vec (r0.length+1+1) 26 cc 1])::L) (L1::r0) _ h3 rfl;have hcc:cc<cc+1+1:=by omega
    generalize CV rs ns ns.length=FF at *;rw[AC];simp only[DT,AH,aW,List.map_nil]at qw ih p8 hgh⊢;simp at ih;simp[hj,hw,AH,p8,hlI,qw,DT,hγ,hcc,h2c,E9,IE,ET,EW,happ,jG,hgh,cX,KR,MD,KQ,jH,AKF,JR,HV,ih];exact ih
   ·have p920:=p920 hnil;have hL':LvB c ss (CV rs ns (j+1)) ((920,cc,.vec 69 ((CV rs ns (j+1)).map DT))::(8,2,.box [.vec 0 920 cc (j+1)])::(920,cc,.vec 69 ((CV rs ns (j+1)).map DT))::L) (cc+1+1):=by
     refine⟨by simpa using p2,by simpa using p6,⟨cc,by omega,?_,fun _=>by simp⟩,fun t ht=>?_,by omega,by omega⟩
     ·rw[hcur];generalize CV rs ns j=O at *;cases O with
      |nil=>exact absurd rfl hnil
      |cons x O=>
       simp at hlen
       simp[RH]
       omega
     ·rw[A5,A5,A5,AEM,pst t ht];have e0:¬0=t.up.length:=by omega
      obtain⟨up,loc⟩:=t;simp only at e0;simp[FS,e0]
    obtain⟨fr,L',c',i1,i2,ih⟩:=AKG c ss rs ns hrl hn L1 r0 e (j+1) _ (cc+1+1) (by omega) hL';refine⟨fr,L',c',i1,by omega,fun n m hm=>?_⟩;obtain⟨m,rfl⟩:∃m',m=m'+1:=⟨m-1,by omega⟩;have ih:=ih n m (by omega);rw[hcur]at ih;have hpv:pvl 0 920 γ ((CV rs ns j).map DT)=.vec 0 920 γ j:=by
     generalize CV rs ns j=O at *;cases O with
     |nil=>exact absurd rfl hnil
     |cons x O=>simp[RH]at hlen⊢;omega
    rw[hpv]at p8;rw[hlen]at happ;have hcc:cc<cc+1+1:=by omega
    have h2c:2<cc+1:=by omega
    have hjj:(j:Int)<(j:Int)+1:=by omega
    have hset:((CV rs ns j).map DT++[[i ns[j],i ns[j]]]).set j [i ns[j],i ns[j]]=(CV rs ns j).map DT++[[i ns[j],i ns[j]]]:=by rw[List.set_append,if_neg (by simp[hlen])];simp[hlen]
    generalize CV rs ns j=O at *;generalize CV rs ns ns.length=FF at *;rw[AC];simp only[DT,AH]at qw ih p8⊢;simp at ih;simp[hj,hw,AH,p8,p920,hlen,qw,DT,hγ,hcc,h2c,E9,IE,ET,happ,ANK,HV,hset,hjj,ih];exact ih
  ·have hgt:j<(CV rs ns j).length:=by omega
   have hcur:CV rs ns (j+1)=(CV rs ns j).set j (wid (CV rs ns j)[j] ns[j]):=by have e2:CV rs ns (j+1)=(CV rs ns j).set j (wid ((CV rs ns j).getD j (0,0)) (ns.getD j 0)):=if_neg hlen;rw[e2,hnd,List.getD_eq_getElem?_getD,List.getElem?_eq_getElem hgt];rfl
   have qw:=fun n=>vF n (CV rs ns j)[j] ns[j];have hne:CV rs ns j≠[]:=fun h=>by rw[h]at hgt;simp at hgt
   have p920:=p920 hne;have hL':LvB c ss (CV rs ns (j+1)) ((920,γ,.vec 69 ((CV rs ns (j+1)).map DT))::L) (cc+1):=by
    refine⟨by simpa using p2,by simpa using p6,⟨γ,by omega,?_,fun _=>by simp⟩,fun t ht=>?_,by omega,by omega⟩
    ·rw[hcur];generalize CV rs ns j=O at *;cases O with
     |nil=>simp at hgt
     |cons x O=>
      cases hs:(x::O).set j (wid (x::O)[j] ns[j])with
      |nil=>simpa using congrArg List.length hs
      |cons y O'=>
       have hl:=congrArg List.length hs
       simp at hl
       simp[RH]at p8
       simp[RH,p8,hl]
    ·rw[A5,pst t ht,AEM]
   obtain⟨fr,L',c',i1,i2,ih⟩:=AKG c ss rs ns hrl hn L1 r0 e (j+1) _ (cc+1) (by omega) hL';refine⟨fr,L',c',i1,by omega,fun n m hm=>?_⟩;obtain⟨m,rfl⟩:∃m',m=m'+1:=⟨m-1,by omega⟩;have ih:=ih n m (by omega);rw[hcur]at ih;have hpv:pvl 0 920 γ ((CV rs ns j).map DT)=.vec 0 920 γ (CV rs ns j).length:=by
    generalize CV rs ns j=O at *;cases O with
    |nil=>simp at hgt
    |cons x O=>simp[RH]
   rw[hpv]at p8;have hlI:¬((CV rs ns j).length:Int)=(j:Int):=by omega
   rw[List.map_set]at ih;have hgc:γ<cc+1:=by omega
   have hat:((CV rs ns j).map DT)[j]? = some (DT (CV rs ns j)[j]):=by rw[List.getElem?_map,List.getElem?_eq_getElem hgt];rfl
   generalize hO:(CV rs ns j)[j]=x at *;generalize CV rs ns j=O at *;generalize CV rs ns ns.length=FF at *;rw[AC];simp only[DT]at qw ih⊢;simp at ih;simp[hj,hw,AH,p8,p920,hlI,hgt,hO,qw,DT,hγ,hgc,E9,ET,ANK,ih]
def FB(c:A3)(ss:List (Int×Int))(t:List Int):List Int:=(AY c ss).map (JM (E3 c t))
def EN(c:A3)(ss:List (Int×Int)):List (Int×Int):=(D9 c.beach).foldl (fun rs t=>CV rs (FB c ss t) (FB c ss t).length) []
theorem LvB.more{c:A3}{ss:List (Int×Int)}{o:List (Int×Int)}{L:AA}{k k':Nat}(h:LvB c ss o L k)(hk:k≤k'):LvB c ss o L k':=by obtain⟨p2,p6,⟨γ,h1,h2⟩,p4,p5,p6'⟩:=h;exact⟨p2,p6,⟨γ,by omega,h2⟩,p4,by omega,p6'⟩
theorem ACM(c:A3)(hc:DW c)(ss:List (Int×Int))(hs:DX c ss=true):vE c (LvB c ss) (fun rs t=>CV rs (FB c ss t) (FB c ss t).length) 79 [.ptr 0 2 0 0,.ptr 0 6 1 0,.ptr 0 8 2 0] 2 2000:=by
 intro a L L1 rs cc fr t hL hg ht hst;have hlt:AU t c.beach.winds=true:=E5 (GI.2 ht);have qs:=fun n=>APD n c hc ss hs t hlt;obtain⟨h1,h2⟩:=EG hc hs;have hfl:=hc.fl;have hsl:(AY c ss).length=c.fams.length:=C6 h1;have hnl:(FB c ss t).length=c.fams.length:=by simp[FB,hsl]
 by_cases hf:c.fams=[]
 ·have hs0:AY c ss=[]:=List.eq_nil_of_length_eq_zero (by rw[hsl,hf];rfl);have hn0:FB c ss t=[]:=by rw[FB,hs0];rfl
  have hL0:=hL;obtain⟨p2,p6,_,pst,_,_⟩:=hL;obtain⟨⟨e1,e2,e3⟩,_⟩:=hst ⟨L::L1::(rs++[[]]),[]⟩ (by simp);refine⟨L,cc,by simpa [hn0,CV]using hL0,Nat.le_refl _,fun n=>?_⟩;rw[A7 Tryz.func79 b79 rfl (by simp)];rw[hs0]at qs p6;have slnil:sl ([]:List (List V))=.nil:=rfl;simp only[List.map_nil,slnil]at qs p6;generalize E3 c t=H at *;simp only[AD,AB]at qs p2⊢;simp[c79,AF,AH,AM,AG,AR,A0,AO,BF,BI,p2,p6,qs,AC,e1,e2,e3];done
 ·have hf3:=List.length_pos_iff.2 hf;have hne:FB c ss t≠[]:=fun e=>by rw[e]at hnl;simp at hnl;omega
  have hsne:(AY c ss)≠[]:=fun e=>by rw[e]at hsl;simp at hsl;omega
  rw[show(AY c ss).map (JM (E3 c t))=FB c ss t from rfl]at qs;have qs':=fun n=>(qs n).trans (congrArg some (slX hne));obtain⟨fr',L',c',i1,i2,ih⟩:=AKG c ss a (FB c ss t) hL.le (by omega) L1 (rs++[[]]) (FB c ss t).length 0 L cc (by omega) hL;refine⟨L',c',i1,i2,fun n=>?_⟩;rw[A7 Tryz.func79 b79 rfl (by simp)];obtain⟨p2,p6,_,pst,_,_⟩:=hL;obtain⟨_,_,_,pst',_,_⟩:=i1;rw[slX hsne]at p6;obtain⟨⟨_,e2,e3⟩,_⟩:=hst ⟨L'::L1::(rs++[[]]),[]⟩ (by simp);have e1:=pst' ⟨L'::L1::(rs++[[]]),[]⟩ (by simp);have ih:=ih (n+1497) (n+1997) (by omega);generalize FB c ss t=ns at *;generalize AY c ss=S at *;generalize E3 c t=H at *;simp only[AD,AB]at qs' p2⊢;simp at ih;simp[c79,AF,AH,AM,AG,AR,A0,AO,BF,BI,AX,p2,p6,qs',ih,e1,e2,e3];done
theorem AEN(n:Nat)(c:A3)(h40:∀l∈c.beach.winds,l.length≤40)(hch:c.chairs.length≤40)(ss:List (Int×Int)):AW Tryz.prog kn (AE Tryz.prog ann kn (n+9000)) 30 [.agg (AD c),.list false (ss.map AG)]=some (.tup [sl ((if DS c ss=0 then EN c ss else[]).map DT),i (DS c ss)]):=by
 rw[AQ rfl,AP Tryz.func30 b30 rfl (by simp[AD,AH,AM,AG,AR,A0,AO])];have slnil:sl ([]:List (List V))=.nil:=rfl;have qa:=fun n=>vA n c h40 hch ss;by_cases h:DS c ss=0
 ·rw[h]at qa⊢;rw[if_pos rfl]at qa⊢;have hf:DM c=0:=by
   unfold DS at h;by_cases h0:DM c=0
   ·exact h0
   ·rw[if_pos h0]at h;exact absurd h h0
  have hs:DX c ss=true:=by
   unfold DS at h;rw[if_neg (by simp[hf])]at h;by_cases h0:DX c ss=true
   ·exact h0
   ·rw[if_neg h0]at h;cases h
  have hc:=K9 hf;have hL:LvB c ss [] [(2,0,.box (AD c)),(6,1,.box [sl ((AY c ss).map AX)]),(8,2,.box [.nil])] 3:=by refine⟨by simp,by simp,⟨2,by omega,by simp[aW],fun h=>absurd rfl h⟩,fun t ht=>?_,by omega,by simp⟩;obtain⟨up,loc⟩:=t;simp[C5,FS,AD,AH,AM,AG,AR,A0,AO]
  obtain⟨L',c',r1,r2,r3⟩:=mX hc (fun _ _ _ _ h hk=>h.more hk) (fun _ _ _ h=>h.st) (ACM c hc ss hs) rfl (fun t ht=>by
   have e0:¬0=t.up.length:=by omega
   obtain⟨up,loc⟩:=t;simp only at e0;simp[e0]) ⟨.ptr 0 2 0 0,by simp,rfl⟩ [] _ 3 hL 20 (by omega) [(19,true,.fn 79 [] [.ptr 0 2 0 0,.ptr 0 6 1 0,.ptr 0 8 2 0]),(18,true,.agg (AD c)),(2,true,.ptr 0 2 0 0),(6,true,.ptr 0 6 1 0),(8,true,.ptr 0 8 2 0)]
  obtain⟨p2,p6,⟨γ,hγ,p8,p920⟩,pst,b2,hle⟩:=r1;have r3:=r3 (n+1994);rw[show n+1994+2000+5000=n+8994 from rfl]at r3;rw[show(D9 c.beach).foldl (fun rs t=>CV rs (FB c ss t) (FB c ss t).length) []=EN c ss from rfl]at *;generalize EN c ss=O at *;simp only[AD,AB]at qa r3⊢;simp[c30,AF,AH,AM,AG,AR,A0,AO,qa,r3,p2,p6,p8];cases O with
  |nil=>
   generalize L'.get 920=z
   generalize L'.get 12=y
   rcases z with _|⟨z1,z2⟩<;>rcases y with _|⟨y1,y2⟩<;>simp[aW,slnil]
  |cons x O=>
   have p920:=p920 (by simp)
   generalize L'.get 12=y
   rcases y with _|⟨y1,y2⟩<;>simp[RH,p920,sl,List.take_of_length_le,DT]
 ·rw[if_neg h]at qa⊢;simp only[List.map_nil,slnil]at qa⊢;generalize DS c ss=e at *;simp only[AD,AB]at qa⊢;simp[c30,AF,AH,AM,AG,AR,A0,AO,qa,h];done
theorem AEO(n:Nat)(f:L9)(x:EI):AW Tryz.prog kn (AE Tryz.prog ann kn (n+200)) 81 [.agg (AO f),.agg (BI x)]=some (.bool (decide (f.good≤x.good))):=by rw[AQ rfl,AP Tryz.func81 b81 rfl (by simp[AO,BI])];simp[c81,AF,AO,BI]
theorem kPl(n:Nat)(c:A3)(k:Nat)(hk:k<c.fams.length)(x:EI)(L L1:AA)(r0:List AA)(g8 g7:Nat)(loc T:AA)(h2:L.get 2=some (0,.box (AD c)))(h8:L.get 8=some (g8,.box [.fn 81 [] []]))(h7:loc.get 7=some (g7,.box [i k]))
  (s0:∀t:St,r0.length+3≤t.up.length→AL t L=L) (s1:∀t:St,r0.length+3≤t.up.length→AL t L1=L1) (s2:∀t:St,r0.length+3≤t.up.length→r0.map (AL t)=r0) (s3:∀t:St,r0.length+3≤t.up.length→AL t loc=loc) (s4:∀t:St,r0.length+3≤t.up.length→AL t T=T) (c1 γ:Nat) (fr:Fr) :
  G4 (BN Tryz.prog ann kn (n+300)) (some 6) ⟨c1,fr,⟨L::L1::(r0++[loc,T,[],[]]),[(2,γ,.box (BI x))]⟩⟩ 84 [.agg (BI x),.ptr 0 8 g8 0,.ptr 0 2 0 0,.ptr (r0.length+2) 7 g7 0]=some ⟨c1+1,(6,true,.bool (decide (c.fams[k].good≤x.good)))::fr,⟨L::L1::(r0++[loc,T,[],[]]),[(2,γ,.box (BI x))]⟩⟩:=by
 rw[A7 Tryz.func84 b84 rfl (by simp)]
 have q:=fun n=>AEO n c.fams[k] x
 have hu:∀(l:List AA) a b d,CX (L::L1::(l++[a,b,[],[],d]))=some (L::L1::(l++[a,b,[],[]]),d):=fun l a b d=>by have:=D4 d (L::L1::(l++[a,b,[],[]]));simpa using this
 have hg:(L::L1::(r0++[loc,T,[],[],[(2,γ,.box (BI x))]]))[r0.length+2]? = some loc:=by simp
 simp only[AD,AB,AO,BI]at q h2 hg⊢
 simp[hu,c84,AF,h2,h8,h7,hg,hk,AO,q,s0,s1,s2,s3,s4]
 done
def WX(H:List (List EI))(x:Sp):List EI:=((H.getD x.row.toNat []).take (x.place+x.size).toNat).drop x.place.toNat
def iD(good:Int)(H:List (List EI))(x:Sp):Bool:=(WX H x).all fun h=>decide (good≤h.good)
def GD(c:A3)(S:List Sp)(H:List (List EI))(o:List Int):Nat→List Int
 |0=>o
 |k+1=>if iD ((c.fams.map (·.good)).getD k 0) H (S.getD k ⟨0,0,0,0⟩)=true then(GD c S H o k).set k (IntKind.i64.wrap ((GD c S H o k).getD k 0+1)) else GD c S H o k
theorem T9{c:A3}{S:List Sp}{H:List (List EI)}{o:List Int}:∀k,(GD c S H o k).length=o.length
 |0=>rfl
 |k+1=>by
  have:=T9 (c:=c) (S:=S) (H:=H) (o:=o) k;unfold GD;split
  ·rw[List.length_set,this]
  ·exact this
structure LvC(c:A3)(ss:List (Int×Int))(o:List Int×Int)(L:AA)(k:Nat):Prop where
 p2:L.get 2=some (0,.box (AD c))
 p6:L.get 6=some (1,.box [sl ((AY c ss).map AX)])
 p8:L.get 8=some (2,.box [.fn 81 [] []])
 p9:L.get 9=some (4,.box [.vec 0 25 3 o.1.length])
 p10:L.get 10=some (5,.box [i o.2])
 p25:L.get 25=some (3,.vec 3 (o.1.map AH))
 st:∀t:St,1≤t.up.length→AL t L=L
 b2:5<k
 le:o.1.length=c.fams.length
theorem lCo(c:A3)(hc:DW c)(ss:List (Int×Int))(S:List Sp)(hS:S=AY c ss)(hSl:S.length=c.fams.length)(H:List (List EI))(hH:∀l∈H,l.length≤10)(hr:H.length≤100)(hx:∀x∈S,0≤x.row∧x.row<H.length∧0≤x.place∧0≤x.size∧x.place+x.size≤(H.getD x.row.toNat []).length)(o:List Int)(nn:Int)(L1:AA)(r0:List AA)
  (s1:∀t:St,r0.length+3≤t.up.length→AL t L1=L1) (s2:∀t:St,r0.length+3≤t.up.length→r0.map (AL t)=r0):∀(e k:Nat) (L loc:AA) (cc:Nat),k+e=S.length→LvC c ss (GD c S H o k,nn) L cc→∃fr L' c' loc',LvC c ss (GD c S H o S.length,nn) L' c'∧cc≤c'∧∀n m,e<m→BC (AE Tryz.prog ann kn (n+1000) 44) YK (ann 44 (BR YK)) m ⟨cc,[(0,true,.list false (H.map BF)),(3,true,.ptr 0 8 2 0),(4,true,.ptr 0 2 0 0),(5,true,.ptr 0 9 4 0),(11,true,.list false (S.map AX)),(12,true,i S.length),(13,true,i k)],⟨L::L1::r0,loc⟩⟩ =
   some (.exit 0,⟨c',fr,⟨L'::L1::r0,loc'⟩⟩)
 |0,k,L,loc,cc,hd,hL=>by
  obtain rfl:k=S.length:=by omega
  refine⟨?fr,L,cc,kl 7 [] (loc.get 7),hL,Nat.le_refl _,fun n m hm=>?g⟩;case g=>
   obtain⟨m,rfl⟩:∃m',m=m'+1:=⟨m-1,by omega⟩
   rw[AC]
   simp
   rfl
 |e+1,k,L,loc,cc,hd,hL=>by
  have hk:k<S.length:=by omega
  have hkf:k<c.fams.length:=by omega
  have hw:=BH (k:=k) (by have:=hc.fl;omega);obtain⟨p2,p6,p8,p9,p10,p25,pst,b2,ple⟩:=hL;obtain⟨x1,x2,x3,x4,x5⟩:=hx S[k] (List.getElem_mem hk);have hrl:S[k].row.toNat<H.length:=by omega
  have hHe:H.getD S[k].row.toNat []=H[S[k].row.toNat]:=by rw[List.getD_eq_getElem?_getD,List.getElem?_eq_getElem hrl];rfl
  have hH1:=hH H[S[k].row.toNat] (List.getElem_mem hrl);rw[hHe]at x5;have hwp:IntKind.i64.wrap (S[k].place+S[k].size)=S[k].place+S[k].size:=AV (by omega) (by omega);have qs:=fun s=>cQ (s:=s) H[S[k].row.toNat] x3 (show S[k].place≤S[k].place+S[k].size by omega) x5;have hmid:((H[S[k].row.toNat]).take (S[k].place+S[k].size).toNat).drop S[k].place.toNat=WX H S[k]:=by rw[WX,hHe]
  have hml:(WX H S[k]).length≤40:=by rw[←hmid,List.length_drop,List.length_take];omega
  rw[hmid]at qs;have s0:∀t:St,r0.length+3≤t.up.length→AL t L=L:=fun t h=>pst t (by omega);have s3:∀t:St,r0.length+3≤t.up.length→AL t [(7,cc,.box [i k]),(8,cc+1,.box (AX S[k]))]=[(7,cc,.box [i k]),(8,cc+1,.box (AX S[k]))]:=fun t h=>by simp[C5,FS,AX]
  obtain⟨c1,hc1,qa⟩:=AO9 300 (r0.length+2) (fun (_:Unit)=>L :: L1 :: r0) (fun _=>[(7,cc,.box [i k]),(8,cc+1,.box (AX S[k]))]) (by simp) (fun _=>True) 84 [.ptr 0 8 2 0,.ptr 0 2 0 0,.ptr (r0.length+2) 7 cc 0] (by simp) (by simp) (fun (_:Unit) h=>decide (c.fams[k].good≤h.good)) (fun _ _=>()) (WX H S[k]) hml (by
   intro s t ht;simp only[List.map_cons,List.map_append,List.map_nil,List.cons_append];rw[s0 t (by omega),s1 t (by omega),s2 t (by omega),s3 t (by omega)]) (by
   intro t γ ht;obtain⟨up,lc⟩:=t;have h0:¬0=up.length:=by simp at ht;omega
   have h1:¬r0.length+2=up.length:=by simp at ht;omega
   simp[h0,h1]) (cc+2) (by
   intro c2 γ fr s y hc2 hs hm;refine⟨fun h=>trivial,c2+1,by omega,fun n=>?_⟩;have q:=kPl n c k hkf y L L1 r0 2 cc [(7,cc,.box [i k]),(8,cc+1,.box (AX S[k]))] [(3,cc+2,.box [.fn 84 [] [.ptr 0 8 2 0,.ptr 0 2 0 0,.ptr (r0.length+2) 7 cc 0]])] p2 p8 (by simp) s0 s1 s2 s3 (fun t ht=>by
    obtain⟨up,lc⟩:=t;have h0:¬0=up.length:=by simp at ht;omega
    have h1:¬r0.length+2=up.length:=by simp at ht;omega
    simp[h0,h1]) c2 γ fr
   simpa using q) 36 [(35,true,.fn 84 [] [.ptr 0 8 2 0,.ptr 0 2 0 0,.ptr (r0.length+1+1) 7 cc 0]),(34,true,.list false ((WX H S[k]).map BI)),(33,true,i (S[k].place+S[k].size)),(32,true,i S[k].size),(31,true,.ptr (r0.length+1+1) 8 (cc+1) 1),(30,true,.ptr (r0.length+1+1) 8 (cc+1) 0),(29,true,i S[k].place),(28,true,.ptr (r0.length+1+1) 8 (cc+1) 3),(27,true,.ptr (r0.length+1+1) 8 (cc+1) 2),(26,true,i S[k].place),(25,true,.ptr (r0.length+1+1) 8 (cc+1) 3),(24,true,.ptr (r0.length+1+1) 8 (cc+1) 2),(23,true,.list false ((H[S[k].row.toNat]).map BI)),(22,true,.ref [.list false ((H[S[k].row.toNat]).map BI)]),(21,true,i S[k].row),(20,true,.ptr (r0.length+1+1) 8 (cc+1) 2),(19,true,.ptr (r0.length+1+1) 8 (cc+1) 2),(18,true,.list false (H.map BF)),(0,true,.list false (H.map BF)),(3,true,.ptr 0 8 2 0),(4,true,.ptr 0 2 0 0),(5,true,.ptr 0 9 4 0),(7,true,.ptr (r0.length+1+1) 7 cc 0),(8,true,.ptr (r0.length+1+1) 8 (cc+1) 0),(11,true,.list false (S.map AX)),(12,true,i S.length),(13,true,i k)] () trivial
  rw[E2]at qa;have hn:=IG (fun h:EI=>decide (c.fams[k].good≤h.good)) (WX H S[k]);simp only at qa;rw[hn]at qa;have hpl:(WX H S[k]).all (fun h=>decide (c.fams[k].good≤h.good))=iD ((c.fams.map (·.good)).getD k 0) H (S.getD k ⟨0,0,0,0⟩):=by rw[iD,List.getD_eq_getElem?_getD,List.getD_eq_getElem?_getD,List.getElem?_map,List.getElem?_eq_getElem hkf,List.getElem?_eq_getElem hk];rfl
  rw[hpl]at qa;have ple':(GD c S H o k).length=c.fams.length:=ple;have hol:k<(GD c S H o k).length:=by omega
  have hcc:cc<cc+1+1:=by omega
  cases hz:iD ((c.fams.map (·.good)).getD k 0) H (S.getD k ⟨0,0,0,0⟩)with
  |false=>
   rw[hz]at qa
   have hcur:GD c S H o (k+1)=GD c S H o k:=by show(if _ then _ else _)=_;rw[if_neg (by rw[hz];decide)]
   obtain⟨fr,L',c',loc',i1,i2,ih⟩:=lCo c hc ss S hS hSl H hH hr hx o nn L1 r0 s1 s2 e (k+1) L [(7,cc,.box [i k])] c1 (by omega) (by rw[hcur];exact⟨p2,p6,p8,p9,p10,p25,pst,by omega,ple⟩)
   refine⟨fr,L',c',loc',i1,by omega,fun n m hm=>?_⟩
   obtain⟨m,rfl⟩:∃m',m=m'+1:=⟨m-1,by omega⟩
   have ih:=ih n m (by omega)
   have qa:=qa (n+393)
   generalize GD c S H o S.length=FF at *
   generalize WX H S[k]=M at *
   generalize hX:S[k]=X at *
   rw[AC]
   simp only[AX]at qa⊢
   simp at ih qa
   simp[hk,hX,hw,hwp,x1,x2,hrl,qs,MB,H5,EC,AX,BF,hcc,qa,ih]
   done
  |true=>
   rw[hz]at qa
   have hcur:GD c S H o (k+1)=(GD c S H o k).set k (IntKind.i64.wrap ((GD c S H o k)[k]+1)):=by show(if _ then _ else _)=_;rw[if_pos hz,List.getD_eq_getElem?_getD,List.getElem?_eq_getElem hol];rfl
   have hL2:LvC c ss (GD c S H o (k+1),nn) ((25,3,.vec 3 ((GD c S H o (k+1)).map AH))::L) c1:=by
    refine⟨by simpa using p2,by simpa using p6,by simpa using p8,?_,by simpa using p10,by simp,fun t ht=>?_,by omega,?_⟩
    ·simp only[T9]at p9⊢;simpa using p9
    ·rw[A5,FW,pst t ht]
    ·simpa only[T9]using ple
   obtain⟨fr,L',c',loc',i1,i2,ih⟩:=lCo c hc ss S hS hSl H hH hr hx o nn L1 r0 s1 s2 e (k+1) _ [(7,cc,.box [i k])] c1 (by omega) hL2
   refine⟨fr,L',c',loc',i1,by omega,fun n m hm=>?_⟩
   obtain⟨m,rfl⟩:∃m',m=m'+1:=⟨m-1,by omega⟩
   have ih:=ih n m (by omega)
   have qa:=qa (n+393)
   have h3c:3<c1:=by omega
   rw[hcur]at ih
   generalize GD c S H o S.length=FF at *
   generalize WX H S[k]=M at *
   generalize hX:S[k]=X at *
   generalize hOk:(GD c S H o k)[k]=Y at *
   simp only at p9 p25
   generalize GD c S H o k=O at *
   rw[List.map_set]at ih
   rw[AC]
   simp only[AX,AH]at qa ih p25⊢
   simp at ih qa
   simp[hk,hX,hw,hwp,x1,x2,hrl,qs,MB,H5,EC,AX,BF,AH,ET,hcc,qa,p9,p25,hol,hOk,E9,h3c,ih]
   done
def eK(c:A3)(ss:List (Int×Int))(o:List Int×Int)(t:List Int):List Int×Int:=(GD c (AY c ss) (E3 c t) o.1 (AY c ss).length,IntKind.i64.wrap (o.2+1))
theorem LvC.more{c:A3}{ss:List (Int×Int)}{o:List Int×Int}{L:AA}{k k':Nat}(h:LvC c ss o L k)(hk:k≤k'):LvC c ss o L k':=by obtain⟨p2,p6,p8,p9,p10,p25,p4,p5,p7⟩:=h;exact⟨p2,p6,p8,p9,p10,p25,p4,by omega,p7⟩
theorem AR3(c:A3)(hc:DW c)(ss:List (Int×Int))(hs:DX c ss=true):vE c (LvC c ss) (eK c ss) 82 [.ptr 0 10 5 0,.ptr 0 6 1 0,.ptr 0 8 2 0,.ptr 0 2 0 0,.ptr 0 9 4 0] 5 2000:=by
 intro a L L1 rs cc fr t hL hg ht hst;have hlt:AU t c.beach.winds=true:=E5 (GI.2 ht);have hlw:=BU hlt;have hl5:=hc.be.hl;have hro:=hc.be.ro;have hpl:=hc.be.pl;obtain⟨h1,h2⟩:=EG hc hs;have hfl:=hc.fl;have hsl:(AY c ss).length=c.fams.length:=C6 h1;obtain⟨o1,o2,o3⟩:=RN hc t (by omega);have hL0:LvC c ss (GD c (AY c ss) (E3 c t) a.1 0,IntKind.i64.wrap (a.2+1)) ((10,5,.box [i (IntKind.i64.wrap (a.2+1))])::L) cc:=by obtain⟨p2,p6,p8,p9,p10,p25,pst,b2,ple⟩:=hL;refine⟨by simpa using p2,by simpa using p6,by simpa using p8,by simpa [GD]using p9,by simp,by simpa [GD]using p25,fun t ht=>?_,b2,ple⟩;rw[A5,pst t ht];simp[FS]
 by_cases hf0:c.fams=[]
 ·have hs0:AY c ss=[]:=List.eq_nil_of_length_eq_zero (by rw[hsl,hf0];rfl);have hg5:5<cc:=hg;have e1:=hL0.st;obtain⟨p2,p6,p8,p9,p10,p25,pst,b2,ple⟩:=hL;have e2:∀L0 loc,AL ⟨L0::L1::(rs++[[]]),loc⟩ L1=L1:=fun L0 loc=>(hst ⟨L0::L1::(rs++[[]]),loc⟩ (by simp)).1.2.1;have e3:∀L0 loc,rs.map (AL ⟨L0::L1::(rs++[[]]),loc⟩)=rs:=fun L0 loc=>(hst ⟨L0::L1::(rs++[[]]),loc⟩ (by simp)).1.2.2;refine⟨_,cc,by simpa [eK,hs0,GD]using hL0,Nat.le_refl _,fun n=>?_⟩;rw[A7 Tryz.func82 b82 rfl (by simp)];rw[hs0]at p6;have slnil:sl ([]:List (List V))=.nil:=rfl;simp only[List.map_nil,slnil]at p6;have e4:=fun t ht=>pst t ht;simp only[A5]at e1;generalize E3 c t=H at *;simp only[AD,AB]at p2⊢;simp[c82,AF,AH,AM,AG,AR,A0,AO,BF,BI,AX,p2,p6,p10,hg5,E9,AC,e2,e3,e4];done
 obtain⟨fr',L',c',loc',i1,i2,ih⟩:=lCo c hc ss (AY c ss) rfl hsl (E3 c t) (fun l hl=>by rw[o2 l hl]; omega) (by omega) (fun x hx=>by
  obtain⟨x1,x2,x3,x4,x5⟩:=h2 x hx;rw[XI hc t (by omega) x1 x2];omega) a.1 (IntKind.i64.wrap (a.2+1)) L1 (rs++[[]]) (fun t ht=>(hst t (by simp at ht; omega)).1.2.1) (fun t ht=>by
  have:=(hst t (by simp at ht; omega)).1.2.2;simp[this]) (AY c ss).length 0 _ [] cc (by omega) hL0
 have hg5:5<cc:=hg;obtain⟨p2,p6,p8,p9,p10,p25,pst,b2,ple⟩:=hL;have pst':=i1.st;refine⟨L',c',i1,i2,fun n=>?_⟩;rw[A7 Tryz.func82 b82 rfl (by simp)];obtain⟨⟨_,e2,e3⟩,_⟩:=hst ⟨L'::L1::(rs++[[]]),[]⟩ (by simp);have e1:=pst';have e2:∀loc,AL ⟨L'::L1::(rs++[[]]),loc⟩ L1=L1:=fun loc=>(hst ⟨L'::L1::(rs++[[]]),loc⟩ (by simp)).1.2.1;have e3:∀loc,rs.map (AL ⟨L'::L1::(rs++[[]]),loc⟩)=rs:=fun loc=>(hst ⟨L'::L1::(rs++[[]]),loc⟩ (by simp)).1.2.2;by_cases hf:c.fams=[]
 ·exact absurd hf hf0
 ·have hf3:=List.length_pos_iff.2 hf;have hsne:(AY c ss)≠[]:=fun e=>by rw[e]at hsl;simp at hsl;omega
  rw[slX hsne]at p6;have ih:=ih (n+996) (n+1996) (by omega);generalize AY c ss=S at *;generalize E3 c t=H at *;simp only[AD,AB]at p2⊢;simp at ih;simp[c82,AF,AH,AM,AG,AR,A0,AO,BF,BI,AX,p2,p6,p10,hg5,E9,ih,e1,e2,e3];done
def UA(nn x:Int):Int:=if x=nn then 1 else if x=0 then 2 else 3
def M5(nn:Int)(cs:List Int)(k:Nat):List Int:=(cs.take k).map (UA nn)++cs.drop k
theorem AEP{nn:Int}{cs:List Int}{k:Nat}:(M5 nn cs k).length=cs.length:=by simp[M5];omega
theorem AKI{nn:Int}{cs:List Int}{k:Nat}(hk:k<cs.length)(h:k<(M5 nn cs k).length):(M5 nn cs k)[k]=cs[k]:=by simp only[M5];rw[List.getElem_append_right (by simp;omega)];simp[Nat.min_eq_left (Nat.le_of_lt hk)]
theorem AEQ{nn:Int}{cs:List Int}{k:Nat}(hk:k<cs.length):(M5 nn cs k).set k (UA nn cs[k])=M5 nn cs (k+1):=by
 have e1:(cs.take (k+1)).map (UA nn)=(cs.take k).map (UA nn)++[UA nn cs[k]]:=by rw[List.take_succ_eq_append_getElem hk,List.map_append];rfl
 unfold M5;rw[e1,List.set_append,if_neg (by simp;omega),List.length_map,List.length_take,Nat.min_eq_left (Nat.le_of_lt hk),Nat.sub_self,List.drop_eq_getElem_cons hk,List.set_cons_zero,List.append_assoc];rfl
def lvN(X2 X6 X8:AZ)(z:Option (Nat×AZ))(nn:Int)(cs:List Int):AA:=(2,0,X2)::(6,1,X6)::(8,2,X8)::(9,4,.box [.vec 0 25 3 cs.length])::(10,5,.box [i nn])::kl 16 [(25,3,.vec 3 (cs.map AH))] z
theorem A4Z(X2 X6 X8:AZ)(z:Option (Nat×AZ))(nn:Int)(cs:List Int)(hl:cs.length≤10):∀(e k cc:Nat),k+e=cs.length→5<cc→∀n m,e<m→BC (AE Tryz.prog ann kn (n+200) 53) YL (ann 53 (BR YL)) m ⟨cc,[(9,true,.ptr 0 9 4 0),(10,true,.ptr 0 10 5 0),(29,true,.vec 0 25 3 cs.length),(30,true,i cs.length),(31,true,i k)],⟨[],lvN X2 X6 X8 z nn (M5 nn cs k)⟩⟩ =
  some (.exit 0,⟨cc,[(32,true,.bool false),(9,true,.ptr 0 9 4 0),(10,true,.ptr 0 10 5 0),(29,true,.vec 0 25 3 cs.length),(30,true,i cs.length),(31,true,i cs.length)],⟨[],lvN X2 X6 X8 z nn (M5 nn cs cs.length)⟩⟩)
 |0,k,cc,hd,hc=>by
  obtain rfl:k=cs.length:=by omega
  intro n m hm;obtain⟨m,rfl⟩:∃m',m=m'+1:=⟨m-1,by omega⟩;rw[AC];generalize M5 nn cs cs.length=V;rcases z with _|⟨z1,z2⟩<;>simp[lvN]
 |e+1,k,cc,hd,hc=>by
  have hk:k<cs.length:=by omega
  have hw:=BH (k:=k) (by omega);have ih:=A4Z X2 X6 X8 z nn cs hl e (k+1) cc (by omega) hc;intro n m hm;obtain⟨m,rfl⟩:∃m',m=m'+1:=⟨m-1,by omega⟩;have ih:=ih n m (by omega);rw[←AEQ hk]at ih;have hvl:(M5 nn cs k).length=cs.length:=AEP;generalize M5 nn cs cs.length=V at *;have hkv:k<(M5 nn cs k).length:=by omega
  have hat:=AKI (nn:=nn) hk hkv;have h3c:3<cc:=by omega
  generalize hX:cs[k]=x at *;generalize M5 nn cs k=W at *;rw[AC];simp only[lvN,List.map_set,List.length_set]at ih⊢;by_cases h1:x=nn
  ·have hv:UA nn x=1:=by simp[UA,h1]
   rw[hv]at ih;rcases z with _|⟨z1,z2⟩<;>(simp[AH,hvl]at ih;simp[hk,hw,hvl,hkv,hat,h1,h3c,AH,E9,ET,ih]);done
  ·by_cases h2:x=0
   ·have hv:UA nn x=2:=by simp[UA,h1,h2];omega
    rw[hv]at ih;rw[h2]at hat h1;rcases z with _|⟨z1,z2⟩<;>(simp[AH,hvl]at ih;simp[hk,hw,hvl,hkv,hat,h1,h3c,AH,E9,ET,ih]);done
   ·have hv:UA nn x=3:=by simp[UA,h1,h2]
    rw[hv]at ih;rcases z with _|⟨z1,z2⟩<;>(simp[AH,hvl]at ih;simp[hk,hw,hvl,hkv,hat,h1,h2,h3c,AH,E9,ET,ih]);done
def mZ(c:A3)(ss:List (Int×Int)):List Int×Int:=(D9 c.beach).foldl (eK c ss) (List.replicate c.fams.length 0,0)
def EO(c:A3)(ss:List (Int×Int)):List Int:=(mZ c ss).1.map (UA (mZ c ss).2)
theorem AER{nn:Int}{cs:List Int}:M5 nn cs cs.length=cs.map (UA nn):=by simp[M5]
theorem yR(n:Nat)(c:A3)(h40:∀l∈c.beach.winds,l.length≤40)(hch:c.chairs.length≤40)(ss:List (Int×Int)):AW Tryz.prog kn (AE Tryz.prog ann kn (n+9000)) 31 [.agg (AD c),.list false (ss.map AG)]=some (.tup [if DS c ss=0 then .list false ((EO c ss).map AH) else .nil,i (DS c ss)]):=by
 rw[AQ rfl,AP Tryz.func31 b31 rfl (by simp[AD,AH,AM,AG,AR,A0,AO])];have slnil:sl ([]:List (List V))=.nil:=rfl;have qa:=fun n=>vA n c h40 hch ss;by_cases h:DS c ss=0
 ·rw[h]at qa⊢;rw[if_pos rfl]at qa⊢;have hf:DM c=0:=by
   unfold DS at h;by_cases h0:DM c=0
   ·exact h0
   ·rw[if_pos h0]at h;exact absurd h h0
  have hs:DX c ss=true:=by
   unfold DS at h;rw[if_neg (by simp[hf])]at h;by_cases h0:DX c ss=true
   ·exact h0
   ·rw[if_neg h0]at h;cases h
  have hc:=K9 hf;have hfl:=hc.fl;have hsl:(AY c ss).length=c.fams.length:=C6 (EG hc hs).1;have hL:LvC c ss (List.replicate c.fams.length 0,0) [(2,0,.box (AD c)),(6,1,.box [sl ((AY c ss).map AX)]),(8,2,.box [.fn 81 [] []]),(9,4,.box [.vec 0 25 3 c.fams.length]),(10,5,.box [i 0]),(25,3,.vec 3 ((List.replicate c.fams.length 0).map AH))] 6:=by
   refine⟨by simp,by simp,by simp,by simp,by simp,by simp,fun t ht=>?_,by omega,by simp⟩;have e0:¬0=t.up.length:=by omega
   have hv:=FW t 3 (List.replicate c.fams.length 0);obtain⟨up,loc⟩:=t;simp only at e0;simp only[A5,hv];simp[C5,FS,AD,AH,AM,AG,AR,A0,AO,e0]
  obtain⟨L',c',r1,r2,r3⟩:=mX hc (fun _ _ _ _ h hk=>h.more hk) (fun _ _ _ h=>h.st) (AR3 c hc ss hs) rfl (fun t ht=>by
   have e0:¬0=t.up.length:=by omega
   obtain⟨up,loc⟩:=t;simp only at e0;simp[e0]) ⟨.ptr 0 2 0 0,by simp,rfl⟩ (List.replicate c.fams.length 0,0) _ 6 hL 28 (by omega) [(27,true,.fn 82 [] [.ptr 0 10 5 0,.ptr 0 6 1 0,.ptr 0 8 2 0,.ptr 0 2 0 0,.ptr 0 9 4 0]),(26,true,.agg (AD c)),(2,true,.ptr 0 2 0 0),(6,true,.ptr 0 6 1 0),(8,true,.ptr 0 8 2 0),(9,true,.ptr 0 9 4 0),(10,true,.ptr 0 10 5 0)]
  rw[show(D9 c.beach).foldl (eK c ss) (List.replicate c.fams.length 0,0)=mZ c ss from rfl]at *;obtain⟨p2,p6,p8,p9,p10,p25,pst,b2,ple⟩:=r1;have r3:=r3 (n+1993);rw[show n+1993+2000+5000=n+8993 from rfl]at r3;unfold EO;generalize mZ c ss=O at *;obtain⟨cs,nn⟩:=O;simp only at p9 p10 p25 ple⊢;have ih:=A4Z (.box (AD c)) (.box [sl ((AY c ss).map AX)]) (.box [.fn 81 [] []]) (L'.get 16) nn cs (by omega) cs.length 0 c' (by omega) (by omega);have ih:=ih (n+8790) (n+8990) (by omega);rw[AER,show M5 nn cs 0=cs by simp[M5]]at ih;have hz:(List.replicate c.fams.length (0:Int)).map AH=List.replicate c.fams.length [V.int IntKind.i64 0]:=by simp[AH]
  rw[hz]at r3;have m1:c.fams.length*8≤140737488355328:=by omega
  have m2:c.fams.length≤maxLen:=by unfold maxLen;omega
  simp only[AD,AB,lvN]at qa r3 p2 ih⊢;simp[c31,AF,AH,AM,AG,AR,A0,AO,qa,m1,m2,hsl,r3,p2,p6,p8,p9,p10,p25];generalize L'.get 16=z at *;rcases z with _|⟨z1,z2⟩
  ·simp at ih;simp[ih,AH,List.take_of_length_le];done
  ·simp at ih;simp[ih,AH,List.take_of_length_le];done
 ·rw[if_neg h]at qa⊢;simp only[List.map_nil,slnil]at qa⊢;generalize DS c ss=e at *;simp only[AD,AB]at qa⊢;simp[c31,AF,AH,AM,AG,AR,A0,AO,qa,h];done
end Go.Proofs.Tryz.Op
