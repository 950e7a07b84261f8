/- The search of Leave: sets of a size, one after another. No condition but a valid case. -/
import Derived.Test.YthhdhbalenanjaaGreatC2
open Go.Proofs.Tryz renaming prog->bt,f90->cj,func91->ck
open List renaming cons_append->bj,not_mem_nil->bk,mem_cons->bq,all_eq_true->bw,length_map->bz,getElem?_eq_getElem->bb,map_nil->bg,take_of_length_le->bh,length_filter_le->bm,nil_append->bn,range->bp
open Nat renaming reduceAdd->bc,le_refl->bf
set_option maxRecDepth 100000
set_option linter.unusedSimpArgs false
open Go Go.Pg Go.Proofs Go.Wind
namespace Go.Proofs.Tryz.Op
@[simp] theorem A1V:IF bt 93=true:=by kernel_rfl
theorem BC3:H0 bt .eql 22 .nil .nil=some (.bool true):=by kernel_rfl
theorem A1W(e:List V)(es:List (List V)):H0 bt .eql 22 (.list false (e::es)) .nil=some (.bool false):=by
 have h:DN bt 22=true:=by kernel_rfl
 show(if DN bt 22=true then(IB (.list false (e::es))).map V.bool else none)=_;rw[if_pos h];rfl
theorem ARV(n:Nat)(xs:List Int)(hl:xs.length<=90):HQ bt (AE bt ann kn (n+100)) 93 [sl (xs.map AJ)]=some ⟨.vec 3 (xs.map AJ),none⟩:=by
 rw[WL Tryz.func93 b93 rfl (by simp)];cases xs with
 |nil=>
  simp[c93,AF,YZ,sl,BC3]
  exact iJ (R:=22) (T:=3) (by kernel_rfl) (by simp) _ _ _ 0 0 [] rfl rfl
 |cons x xs=>
  have ha:BW bt 3 0 ((x::xs).map AJ)=true:=by rw[BQ (by simp) (by simp)];simp[maxLen,AJ]at hl|-;omega
  simp only[sl,List.map_cons]at ha|-
  simp[c93,AF,YZ,ha,A1W]
  rw[show xs.length+1=(AJ x::xs.map AJ).length by simp]
  exact iJ (P:=bt) (R:=22) (T:=3) (by kernel_rfl) (by simp) _ _ _ 7 0 (AJ x::xs.map AJ) (by simp) (by simp[AJ])
theorem Lw.self{c:AP}{γ:Nat}{B L:AA}(h:Lw c γ B L):Lw c γ L L:=⟨h.p0,h.p1,h.st,fun _ _=>rfl⟩
structure VF(c:AP)(γ g:Nat)(f:List Int)(L:AA):Prop where
 w:Lw c γ L L
 p1:L.get 1=some (0,.box (AD c))
 p4:L.get 4=some (g,.box [.ptr 0 911 (γ+1) 0])
 p6:L.get 6=some (g+1,.box [sl (f.map AJ)])
 p7:L.get 7=some (g+1+1,.box [.fn 90 [] [.ptr 0 6 (g+1) 0,.ptr 0 4 g 0,.ptr 0 1 0 0,.ptr 0 7 (g+1+1) 0]])
 no:∀k,¬k∈[1,4,6,7,910,911]->L.get k=none
theorem VF.next{c:AP}{γ g:Nat}{f:List Int}{L L':AA}(h:VF c γ g f L)(h':Lw c γ L L'):VF c γ g f L' where
 w:=h'.self
 p1:=(h'.ot 1 (by decide)).trans h.p1
 p4:=(h'.ot 4 (by decide)).trans h.p4
 p6:=(h'.ot 6 (by decide)).trans h.p6
 p7:=(h'.ot 7 (by decide)).trans h.p7
 no:=fun k hk=>(h'.ot k fun e=>hk (by simp[e])).trans (h.no k hk)
theorem VF.put{c:AP}{γ g:Nat}{f:List Int}{L:AA}(h:VF c γ g f L)(out:List Int):VF c γ g out ((6,g+1,.box [sl (out.map AJ)])::L) where
 w:=⟨by obtain⟨T,h1,h2⟩:=h.w.p0;exact⟨T,h1,by simpa using h2⟩,by simpa using h.w.p1,fun t ht=>by simp[h.w.st t ht],fun _ _=>rfl⟩
 p1:=by simpa using h.p1
 p4:=by simpa using h.p4
 p6:=by simp
 p7:=by simpa using h.p7
 no:=fun k hk=>by have:¬k=6:=fun e=>hk (by simp[e]);rw[<-h.no k hk];simp[this]
def ADD(c:AP)(γ g M m:Nat):Prop:=∀(rs:List AA) (f:List Int) (L:AA) (out:List Int) (fr0 cc:Nat),VF c γ g f L->FK rs->γ+1<cc->g+1+1<cc->out.length+m<=c.fams.length->fr0<=c.fams.length ->
 ∃L' f' c',VF c γ g f' L'/\cc<=c'/\(∀x,DX (FI c) c.fams.length m fr0 out=some x->f'=x) /\
  ∀(n dd:Nat) (fr:Fr),fI bt (some dd) fr cj.results.toList (AE bt ann kn (n+M) cj.ntmps c90 ⟨cc,AF 0 [sl (out.map AJ),i fr0,i m,.ptr 0 6 (g+1) 0,.ptr 0 4 g 0,.ptr 0 1 0 0,.ptr 0 7 (g+1+1) 0],⟨L::rs,[]⟩⟩) =
   YG (some dd) fr c' (.bool (DX (FI c) c.fams.length m fr0 out).isSome) (CE (L'::rs))
theorem BC4(c:AP)(hc:B0 c)(γ g:Nat):ADD c γ g 7000 0:=by
 intro rs f L out fr0 cc hL hst hcc hcg ho hfr;have hfl:=hc.fl;have hP:=hL.put out;have hgs:∀x∈AZ c out,x.1<c.fams.length/\1<=x.2/\x.2<=4:=fun x hx=>H6 hc out _ (bf _) x hx;have hgl:(AZ c out).length<=9:=by rw[FW,bz];have:=bm (fun k:Nat=>!decide ((k:Int)∈out)) (bp c.fams.length);simp[KP]at this|-;omega
 have hgr:lY (rs++[[]]) (AZ c out) (sl ((AZ c out).map AW)):=.inl rfl;have hst2:FK (rs++[[]]):=IA hst fun t _=>rfl;obtain⟨L',c',r1,r2,r3⟩:=ADB hc hgl hgs (rs++[[]]) hst2 hgr _ hP.w cc (by omega);have hz:(DX (FI c) c.fams.length 0 fr0 out).isSome=EZ c (A7 c) (AZ c out):=by show(if FI c out=true then some out else none).isSome=_;unfold FI;cases EZ c (A7 c) (AZ c out)<;>rfl
 refine⟨L',out,c',hP.next r1,r2,fun x hx=>?_,fun n dd fr=>?_⟩
 ·unfold DX at hx;split at hx
  ·cases hx;rfl
  ·cases hx
 ·rw[hz];have qG:=fun n=>vU n c (by omega) out (by omega);have q2:∀n fr,G4 (BN bt ann kn (n+6500)) (some 22) ⟨cc,fr,⟨((6,g+1,.box [sl (out.map AJ)])::L)::rs,[]⟩⟩ 91 [.ptr 0 911 (γ+1) 0,sl ((AZ c out).map AW)]=some ⟨c',(22,true,.bool (EZ c (A7 c) (AZ c out)))::fr,⟨L'::rs,[]⟩⟩:=fun n fr=>by rw[A5 ck b91 rfl (by simp),bj];refine(r3 n 22 fr).trans ?_;rw[<-bj,unsnoc_snoc];rfl
  generalize EZ c (A7 c) (AZ c out)=z at q2|-;have p1:=hL.w.p1;have p4:=hL.p4;have p6:=hL.p6;have sL:=r1.st;have hg1:g+1<cc:=by omega
  simp only[show cj.ntmps=44 from rfl];have hclB:c.chairs.all ((fun e=>e.all (AG 7))∘AU)=true:=bw.2 fun x _=>by simp[AU,BC]
  have hclF:c.fams.all ((fun e=>e.all (AG 7))∘AS)=true:=bw.2 fun x _=>by simp[AS]
  have hcG:∀f:Nat,AG (f+3) (sl ((AZ c out).map AW))=true:=fun f=>by cases AZ c out<;>simp[sl,AW]
  have hwG:weakV (sl ((AZ c out).map AW))=sl ((AZ c out).map AW):=by cases AZ c out<;>simp[sl]
  generalize sl ((AZ c out).map AW)=gl at *;simp only[CT,AD]at p1 qG;have sR1:∀(A lo:AA),rs.map (AH ⟨A::rs,lo⟩)=rs:=fun A lo=>hst _ (by simp);simp[c90,AF,p1,p4,p6,qG,q2,hg1,hwG,hclB,hclF,AA.put,CD,B6,sL,sR1]
theorem lLe(c:AP)(hc:B0 c)(γ g W m:Nat)(hrec:ADD c γ g (W+7000) m)(rs:List AA)(hst:FK rs)(out:List Int)(ho:out.length+(m+1)<=c.fams.length) :
  ∀(e j:Nat) (f:List Int) (L D:AA) (cc:Nat),c.fams.length-m-j=e->j<=c.fams.length->VF c γ g f L->γ+1<cc->g+1+1<cc->(D=[]\/∃g,D=[(35,g,.dead)]) ->
  ∃(L' D':AA) (f':List Int) (c':Nat) (x:Fr),VF c γ g f' L'/\cc<=c'/\(∀y,CZ (fun j=>DX (FI c) c.fams.length m (j+1) (out++[(j:Int)])) e j=some y->f'=y) /\
   ∀n k,e<k->A8 (AE bt ann kn (n+W+7050) 44) Z8 (ann 44 (BU Z8)) k ⟨cc,[(0,true,sl (out.map AJ)),(2,true,i ((m+1:Nat):Int)),(5,true,.ptr 0 1 0 0),(6,true,.ptr 0 7 (g+1+1) 0),(11,true,i j)],⟨L::rs,D⟩⟩ =
    match CZ (fun j=>DX (FI c) c.fams.length m (j+1) (out++[(j:Int)])) e j with
    |some _=>some (.ret,⟨c',[(10,true,.bool true)],⟨L'::rs,[]⟩⟩)
    |none=>some (.exit 0,⟨c',x,⟨L'::rs,D'⟩⟩)
 |0,j,f,L,D,cc,he,hj,hL,hcc,hcg,hD=>by
  have hl:=hc.fl;have p1:=hL.p1;have hw:IntKind.i64.wrap ((c.fams.length:Int)-((m+1:Nat):Int))=(c.fams.length:Int)-((m+1:Nat):Int):=AO (by omega) (by omega);have hnot:¬((j:Int)<=(c.fams.length:Int)-((m+1:Nat):Int)):=by omega
  simp only[AD]at p1;generalize ((m+1:Nat):Int)=mi at *;refine⟨L,D,f,cc,?_,hL,bf _,fun y hy=>(by cases hy),fun n k hk=>?_⟩;rotate_left
  ·obtain⟨k,rfl⟩:∃k',k=k'+1:=⟨k-1,by omega⟩;rcases hD with rfl|⟨g,rfl⟩
   ·simp[AB,CZ,p1,hw,hnot];rfl
   ·simp[AB,CZ,p1,hw,hnot]
 |e+1,j,f,L,D,cc,he,hj,hL,hcc,hcg,hD=>by
  have hl:=hc.fl;have p1:=hL.p1;have p7:=hL.p7;have hw:IntKind.i64.wrap ((c.fams.length:Int)-((m+1:Nat):Int))=(c.fams.length:Int)-((m+1:Nat):Int):=AO (by omega) (by omega);have hle:(j:Int)<=(c.fams.length:Int)-((m+1:Nat):Int):=by omega
  have hw1:IntKind.i64.wrap ((j:Int)+1)=(j:Int)+1:=AO (by omega) (by omega);have hw2:IntKind.i64.wrap (((m+1:Nat):Int)-1)=(m:Int):=by rw[AO (by omega) (by omega)];omega
  simp only[AD]at p1;have qC:=fun n=>ARV n out (by omega);have happ:BW bt 3 out.length [[.int .i64 j]]=true:=by rw[BQ (by simp) (by simp)];simp[maxLen];omega
  have hga:(out.map AJ++[[V.int .i64 (j:Int)]])=(out++[(j:Int)]).map AJ:=by simp[AJ]
  have hlen:(out++[(j:Int)]).length=out.length+1:=by simp
  generalize hout:out++[(j:Int)]=out' at *;obtain⟨loc,hloc⟩:∃loc:AA,loc=[(35,cc+1,AX.dead),(35,cc+1,.vec 3 (out'.map AJ)),(35,cc,.vec 3 (out.map AJ))]:=⟨_,rfl⟩;have hcl:∀(t:St) (l:List Int),CG t (.vec 3 (l.map AJ))=.vec 3 (l.map AJ):=fun t l=>PA fun e he v hv=>by obtain⟨x,_,rfl⟩:=List.mem_map.1 he;simp only[AJ,bq,bk,or_false]at hv;rw[hv];rfl
  have hst':FK (rs++[loc]):=IA hst fun t ht=>by rw[hloc];simp[BK,hcl]
  obtain⟨L1,f1,c1,hL1,hc1,hf1,q⟩:=hrec (rs++[loc]) f L out' (j+1) (cc+1+1) hL hst' (by omega) (by omega) (by omega) (by omega);have q2:∀n fr,G4 (BN bt ann kn (n+W+7045)) (some 43) ⟨cc+1+1,fr,⟨L::rs,loc⟩⟩ 90 [sl (out'.map AJ),i ((j+1:Nat):Int),i m,.ptr 0 6 (g+1) 0,.ptr 0 4 g 0,.ptr 0 1 0 0,.ptr 0 7 (g+1+1) 0]=some ⟨c1,(43,true,.bool (DX (FI c) c.fams.length m (j+1) out').isSome)::fr,⟨L1::rs,loc⟩⟩:=fun n fr=>by have q:=q (n+45) 43 fr;rw[show n+45+(W+7000)=n+W+7045 by omega]at q;rw[A5 Tryz.func90 b90 rfl (by simp),bj,q,<-bj,unsnoc_snoc];rfl
  have hti:=fun fr h=>iK (t:=38) (c:=cc+1+1) (l:=rs.length+1) (q:=35) (γ:=cc+1) (n:=out.length+1) (fr:=fr) (s:=⟨L::rs,[(35,cc+1,.vec 3 (out'.map AJ)),(35,cc,.vec 3 (out.map AJ))]⟩) (U:=3) (es:=out'.map AJ) h (by simp) (by simp;omega) (by omega);have htk:(out'.map AJ).take (out.length+1)=out'.map AJ:=bh (by simp;omega);have hsl:sl (out'.map AJ)=.list false (out'.map AJ):=by
   cases out' with
   |nil=>simp at hlen
   |cons y ys=>rfl
  rw[hsl]at q2;simp only[hloc]at q2;cases hz:DX (FI c) c.fams.length m (j+1) out' with
  |some y=>
   rw[hz]at q2
   simp only[Option.isSome_some]at q2
   have hy:CZ (fun j=>DX (FI c) c.fams.length m (j+1) (out++[(j:Int)])) (e+1) j=some y:=by simp only[CZ];rw[hout,hz]
   refine⟨L1,[],f1,c1,[],hL1,by omega,fun y' hy'=>?_,fun n k hk=>?_⟩
   ·rw[hy]at hy';cases hy';exact hf1 _ hz
   ·obtain⟨k,rfl⟩:∃k',k=k'+1:=⟨k-1,by omega⟩;rw[AB,hy];generalize ((m+1:Nat):Int)=mi at *;simp at q2;rcases hD with rfl|⟨g,rfl⟩
    ·simp[p1,p7,hw,hle,hw1,hw2,qC,happ,J4,AJ,hga,hti,htk,q2];done
    ·simp[p1,p7,hw,hle,hw1,hw2,qC,happ,J4,AJ,hga,hti,htk,q2];done
  |none=>
   rw[hz]at q2
   simp only[Option.isSome_none]at q2
   have hy:CZ (fun j=>DX (FI c) c.fams.length m (j+1) (out++[(j:Int)])) (e+1) j=CZ (fun j=>DX (FI c) c.fams.length m (j+1) (out++[(j:Int)])) e (j+1):=by simp only[CZ];rw[hout,hz]
   obtain⟨L2,D2,f2,c2,x2,hL2,hc2,hf2,ih⟩:=lLe c hc γ g W m hrec rs hst out ho e (j+1) f1 L1 [(35,cc+1,.dead)] c1 (by omega) (by omega) hL1 (by omega) (by omega) (.inr ⟨_,rfl⟩)
   rw[hy]
   refine⟨L2,D2,f2,c2,x2,hL2,by omega,hf2,fun n k hk=>?_⟩
   obtain⟨k,rfl⟩:∃k',k=k'+1:=⟨k-1,by omega⟩
   have ih:=ih n k (by omega)
   rw[AB]
   generalize CZ (fun j=>DX (FI c) c.fams.length m (j+1) (out++[(j:Int)])) e (j+1)=r at ih|-
   generalize ((m+1:Nat):Int)=mi at *
   simp at q2 ih
   rcases hD with rfl|⟨g,rfl⟩
   ·simp[p1,p7,hw,hle,hw1,hw2,qC,happ,J4,AJ,hga,hti,htk,q2,ih];done
   ·simp[p1,p7,hw,hle,hw1,hw2,qC,happ,J4,AJ,hga,hti,htk,q2,ih];done
theorem kLe(c:AP)(hc:B0 c)(γ g:Nat):∀m,ADD c γ g (100*m+7000) m
 |0=>BC4 c hc γ g
 |m+1=>by
  intro rs f L out fr0 cc hL hst hcc hcg ho hfr;have hl:=hc.fl;obtain⟨L1,D1,f1,c1,x,hL1,hc1,hf1,hlp⟩:=lLe c hc γ g (100*m) m (kLe c hc γ g m) rs hst out ho (c.fams.length-m-fr0) fr0 f L [] cc rfl hfr hL hcc hcg (.inl rfl);have hsr:DX (FI c) c.fams.length (m+1) fr0 out=CZ (fun j=>DX (FI c) c.fams.length m (j+1) (out++[(j:Int)])) (c.fams.length-m-fr0) fr0:=rfl;rw[hsr];refine⟨L1,f1,c1,hL1,hc1,hf1,fun n dd fr=>?_⟩;have hlp:=hlp (n+44) (n+100*m+7094) (by omega);have hm1:¬(((m+1:Nat):Int)=0):=by omega
  rw[show n+44+100*m+7050=n+100*m+7094 by omega]at hlp;rw[show n+(100*(m+1)+7000)=n+100*m+7100 by omega];simp only[show cj.ntmps=44 from rfl];generalize CZ (fun j=>DX (FI c) c.fams.length m (j+1) (out++[(j:Int)])) (c.fams.length-m-fr0) fr0=r at hlp|-;generalize ((m+1:Nat):Int)=mi at *;have hs1:=hL1.w.st;have sR1:∀(A lo:AA),rs.map (AH ⟨A::rs,lo⟩)=rs:=fun A lo=>hst _ (by simp);cases r with
  |some y=>
   simp at hlp
   simp[c90,AF,hm1,hlp,hs1,sR1]
   done
  |none=>
   simp at hlp
   simp[c90,AF,hm1,hlp,hs1,sR1]
   done
def NS(c:AP)(γ g:Nat)(f:List Int)(T:List (Sp×C5)):AA:=[(1,0,.box (AD c)),(4,g,.box [.ptr 0 911 (γ+1) 0]),(6,g+1,.box [sl (f.map AJ)]),(7,g+1+1,.box [.fn 90 [] [.ptr 0 6 (g+1) 0,.ptr 0 4 g 0,.ptr 0 1 0 0,.ptr 0 7 (g+1+1) 0]]),(910,γ,.map (T.map GW)),(911,γ+1,.box (CT c γ))]
theorem YK{c:AP}{γ g:Nat}{f:List Int}{T:List (Sp×C5)}(hT:dK c T):VF c γ g f (NS c γ g f T) where
 w:=⟨⟨T,hT,by simp[NS]⟩,by simp[NS],fun t ht=>by
  have e0:¬0=t.up.length:=by omega
  have hcE:∀l∈A7 c,encA l=l.map fun x=>i x:=fun _ _=>rfl;have hs:=kV t T;obtain⟨up,lo⟩:=t;simp only at e0;simp[NS,CT,AD,e0,hs],fun _ _=>rfl⟩
 p1:=by simp[NS]
 p4:=by simp[NS]
 p6:=by simp[NS]
 p7:=by simp[NS]
 no:=fun k hk=>by simp only[bq,bk,or_false,not_or]at hk;simp[NS,hk.1,hk.2.1,hk.2.2.1,hk.2.2.2.1,hk.2.2.2.2.1,hk.2.2.2.2.2]
theorem ADE(c:AP)(hc:B0 c)(γ g:Nat):∀(e j:Nat) (f:List Int) (L:AA) (cc:Nat),j+e=c.fams.length+1->VF c γ g f L->γ+1<cc->g+1+1<cc ->
  ∃(f':List Int) (L':AA) (c':Nat) (fr:Fr),VF c γ g f' L'/\BG fr 6=some (true,.ptr 0 6 (g+1) 0)/\(∀y,CZ (fun m=>DX (FI c) c.fams.length m 0 []) e j=some y->f'=y)/\∀n k,e<k ->
   A8 (AE bt ann kn (n+8500) 30) Z9 (ann 30 (BU Z9)) k ⟨cc,[(6,true,.ptr 0 6 (g+1) 0),(7,true,.ptr 0 7 (g+1+1) 0),(21,true,i ((c.fams.length+1:Nat):Int)),(22,true,i j)],⟨[],L⟩⟩ =
    some (.exit 0,⟨c',fr,⟨[],L'⟩⟩)
 |0,j,f,L,cc,hd,hL,hcc,hcg=>by
  have hnot:¬((j:Int)<((c.fams.length+1:Nat):Int)):=by omega
  generalize ((c.fams.length+1:Nat):Int)=N at *;obtain⟨T,hT,p910⟩:=hL.w.p0;have p911:=hL.w.p1;have n11:=hL.no 11 (by decide);have n27:=hL.no 27 (by decide);have p1:=hL.p1;have p4:=hL.p4;have p6:=hL.p6;have p7:=hL.p7;refine⟨f,NS c γ g f T,cc,?fr,YK hT,?g1,fun y hy=>(by cases hy),fun n k hk=>?g⟩;case g=>
   obtain⟨k,rfl⟩:∃k',k=k'+1:=⟨k-1,by omega⟩
   simp[AB,NS,hnot,p1,p4,p6,p7,p910,p911,n11]
   rfl
  case g1=>simp
 |e+1,j,f,L,cc,hd,hL,hcc,hcg=>by
  have hl:=hc.fl;have hlt:(j:Int)<((c.fams.length+1:Nat):Int):=by omega
  have hw:=BM (k:=j) (by omega);obtain⟨T,hT,o910⟩:=hL.w.p0;have o911:=hL.w.p1;have m11:=hL.no 11 (by decide);have m27:=hL.no 27 (by decide);have o1:=hL.p1;have o4:=hL.p4;have o6:=hL.p6;have o7:=hL.p7;obtain⟨L1,f1,c1,hL1,hc1,hf1,q⟩:=kLe c hc γ g j [] f (NS c γ g f T) [] 0 cc (YK hT) (fun t _=>rfl) hcc hcg (by simp;omega) (by omega);obtain⟨T1,hT1,p910⟩:=hL1.w.p0;have p911:=hL1.w.p1;have n11:=hL1.no 11 (by decide);have n27:=hL1.no 27 (by decide);have n3:=hL1.no 3 (by decide);have n8:=hL1.no 8 (by decide);have n25:=hL1.no 25 (by decide);have p1:=hL1.p1;have p4:=hL1.p4;have p6:=hL1.p6;have p7:=hL1.p7;have q2:∀n fr,G4 (BN bt ann kn (n+8493)) (some 27) ⟨cc,fr,⟨[],NS c γ g f T⟩⟩ 90 [.nil,i 0,i j,.ptr 0 6 (g+1) 0,.ptr 0 4 g 0,.ptr 0 1 0 0,.ptr 0 7 (g+1+1) 0]=some ⟨c1,(27,true,.bool (DX (FI c) c.fams.length j 0 []).isSome)::fr,⟨[],L1⟩⟩:=fun n fr=>by have q:=q (n+1493-100*j) 27 fr;rw[show n+1493-100*j+(100*j+7000)=n+8493 by omega]at q;rw[A5 Tryz.func90 b90 rfl (by simp)];have hs:sl (List.map AJ [])=.nil:=rfl;rw[hs]at q;simp only[Int.natCast_zero,bn]at q|-;rw[q];rfl
  cases hz:DX (FI c) c.fams.length j 0 []with
  |some y=>
   rw[hz]at q2
   have hy:CZ (fun m=>DX (FI c) c.fams.length m 0 []) (e+1) j=some y:=by simp only[CZ];rw[hz]
   rw[hy]
   generalize ((c.fams.length+1:Nat):Int)=N at *
   refine⟨f1,L1,c1,?fr2,hL1,?g3,fun y' h=>?g5,fun n k hk=>?g4⟩
   case g5=>
    cases h
    exact hf1 _ hz
   case g4=>
    obtain⟨k,rfl⟩:∃k',k=k'+1:=⟨k-1,by omega⟩
    rw[AB]
    simp only[NS]at q2|-
    simp at q2
    simp[hlt,o1,o4,o6,o7,o910,o911,m11,q2]
    rfl
   case g3=>simp
  |none=>
   rw[hz]at q2
   have hy:CZ (fun m=>DX (FI c) c.fams.length m 0 []) (e+1) j=CZ (fun m=>DX (FI c) c.fams.length m 0 []) e (j+1):=by simp only[CZ];rw[hz]
   obtain⟨f2,L2,c2,fr2,hL2,hg2,hf2,ih⟩:=ADE c hc γ g e (j+1) f1 (NS c γ g f1 T1) c1 (by omega) (YK hT1) (by omega) (by omega)
   rw[hy]
   refine⟨f2,L2,c2,fr2,hL2,hg2,hf2,fun n k hk=>?_⟩
   obtain⟨k,rfl⟩:∃k',k=k'+1:=⟨k-1,by omega⟩
   have ih:=ih n k (by omega)
   generalize ((c.fams.length+1:Nat):Int)=N at *
   rw[AB]
   simp only[NS]at q2 ih|-
   simp at q2 ih
   simp[hlt,hw,o1,o4,o6,o7,o910,o911,m11,p1,p4,p6,p7,p910,p911,n11,n3,n8,q2,ih]
theorem zO(c:AP):(NY (FI c) c.fams.length).isSome=true:=by obtain⟨y,h,_⟩:=W1 c;rw[h];rfl
theorem AJY(n:Nat)(c:AP)(h40:∀l∈c.beach.winds,l.length<=40)(hch:c.chairs.length<=40):AY bt kn (AE bt ann kn (n+9600)) 41 [.agg (AD c)]=some (.tup [sl ((YI c).1.map AJ),i (YI c).2]):=by
 rw[AN rfl,AM Tryz.func41 b41 rfl (by simp[AD,AU,BC,AS])];unfold YI;by_cases h:E3 c=0
 ·rw[if_neg (by simp[h])];have hc:=U9 h;have hfl:=hc.fl;obtain⟨g',hg,q⟩:=vS c hc [(1,0,.box (AD c))] (fun t _=>vT c 1 0 t) 1 11 [(10,true,.agg (AD c)),(1,true,.ptr 0 1 0 0)];have q:=fun n=>q (n+1596);have hT0:dK c []:=⟨by simp,by simp,by simp⟩;obtain⟨f',L',c',fr,hL,g6,hf',ql⟩:=ADE c hc 2 g' (c.fams.length+1) 0 [] (NS c 2 g' [] []) (g'+1+1+1) (by omega) (YK hT0) (by omega) (by omega);have ql:=ql (n+1088) (n+9588) (by omega);rw[show n+1088+8500=n+9588 by omega]at ql;have hw:IntKind.i64.wrap ((c.fams.length:Int)+1)=((c.fams.length+1:Nat):Int):=by rw[AO (by omega) (by omega)];rfl
  obtain⟨y,hy⟩:=Option.isSome_iff_exists.1 (zO c);have:=hf' y hy;subst this;rw[hy];obtain⟨T,hT,p910⟩:=hL.w.p0;have p911:=hL.w.p1;have n11:=hL.no 11 (by decide);have n27:=hL.no 27 (by decide);have p1:=hL.p1;have p4:=hL.p4;have p6:=hL.p6;have p7:=hL.p7;generalize ((c.fams.length+1:Nat):Int)=N at *;simp only[AD,CT,NS,bg,dJ]at q ql|-;simp at ql;simp[c41,AF,q,hw,ql,g6,p1,p4,p6,p7,p910,p911,n11]
 ·rw[if_pos h];have q:=Y9 c h40 hch h [(1,0,.box (AD c))] (fun t _=>vT c 1 0 t) 1 11 [(10,true,.agg (AD c)),(1,true,.ptr 0 1 0 0)];have q:=fun n=>q (n+1596);generalize E3 c=E at *;simp only[AD,Nat.add_assoc,bc]at q|-;simp[c41,AF,q,h,dJ,show BA (V.raw (Value.pointer none))=true from rfl,show(A9 (V.raw (Value.pointer none))).length=1 from rfl]
def VG(p:Nat->Bool):Nat->Nat->Bool
 |0,_=>false
 |e+1,j=>p j||VG p e (j+1)
theorem ZC(p:Nat->Bool):∀e j,VG p e j=(bp e).any fun k=>p (j+k)
 |0,_=>rfl
 |e+1,j=>by rw[List.range_succ_eq_map,List.any_cons,List.any_map];simp only[VG,ZC p e (j+1),Nat.add_zero];congr 2;funext k;show p (j+1+k)=p (j+(k+1));congr 1;omega
def QW(c:AP)(k n:Nat):List (Nat×Int):=AZ c [(k:Int)]++[(k,(n:Int)+1),(k,(BO c k).size-((n:Int)+1))]
@[simp] theorem AXI:IF bt 92=true:=by kernel_rfl
theorem AJZ(n:Nat)(c:AP)(hl:c.fams.length<=30)(out:List Int)(ho:out.length<=40):HQ bt (AE bt ann kn (n+2000)) 92 [.agg (AD c),li out]=some ⟨.vec 151 ((AZ c out).map AW),none⟩:=by
 rw[WL Tryz.func92 b92 rfl (by simp[AD,AU,BC,AS])];obtain⟨c',γ',q⟩:=AJW c.fams hl out ho (.box (AD c)) c.fams.length 0 1 0 (by omega);have q:=fun n m=>q n (m+100) (by omega);have e:B5 c.fams out c.fams.length=AZ c out:=rfl;rw[e,show B5 c.fams out 0=[] from rfl]at q;generalize hG:AZ c out=G at *;have hcl:(G.map AW).all (fun e=>e.all (AG 9))=true:=by simp[AW]
 generalize G.map AW=R at *;simp only[AD,bg]at q|-;simp at q;simp[c92,AF,q,YZ];cases R with
 |nil=>exact iJ (R:=170) (T:=151) (by kernel_rfl) (by simp) _ _ _ 25 γ' [] rfl rfl
 |cons x xs=>exact iJ (P:=bt) (R:=170) (T:=151) (by kernel_rfl) (by simp) _ _ _ 25 γ' (x::xs) (by simp) hcl
theorem iU{c:AP}{k:Nat}(hk:k<c.fams.length):BO c k∈c.fams:=by simp[BO,bb hk]
theorem lPt(c:AP)(hc:B0 c){γ:Nat}{B:AA}(k:Nat)(hk:k<c.fams.length)(rs:List AA)(hst:FK rs) :
  ∀(e j:Nat) (L D:AA) (cc:Nat),j+e=((BO c k).size / 2).toNat->Lw c γ B L->γ+1<cc->(D=[]\/∃g,D=[(29,g,.dead)]) ->
  ∃(L' D':AA) (c':Nat) (x:Fr),Lw c γ B L'/\cc<=c' /\
   ∀n m,e<m->A8 (AE bt ann kn (n+7050) 41) aA (ann 41 (BU aA)) m ⟨cc,[(0,true,.ptr 0 911 (γ+1) 0),(1,true,i k),(5,true,i (BO c k).size),(6,true,i ((j:Int)+1))],⟨L::rs,D⟩⟩ =
    if VG (fun n=>EZ c (A7 c) (QW c k n)) e j=true then some (.ret,⟨c',[(4,true,.bool true)],⟨L'::rs,[]⟩⟩)
    else some (.exit 0,⟨c',x,⟨L'::rs,D'⟩⟩)
 |0,j,L,D,cc,he,hL,hcc,hD=>by
  have hfs:=(hc.fo _ (iU hk)).1;generalize (BO c k).size=z at *;have hnot:¬((j:Int)+1<=z / 2):=by omega
  have w0:IntKind.i64.wrap (z.tdiv 2)=z / 2:=by rw[Int.tdiv_eq_ediv_of_nonneg (by omega),AO (by omega) (by omega)]
  refine⟨L,D,cc,?_,hL,bf _,fun n m hm=>?_⟩;rotate_left
  ·obtain⟨m,rfl⟩:∃k',m=k'+1:=⟨m-1,by omega⟩;rcases hD with rfl|⟨g,rfl⟩
   ·simp[AB,VG,hnot,w0];rfl
   ·simp[AB,VG,hnot,w0]
 |e+1,j,L,D,cc,he,hL,hcc,hD=>by
  have hfs:=(hc.fo _ (iU hk)).1;have hfl:=hc.fl;have hlt:(j:Int)+1<=(BO c k).size / 2:=by omega
  have hgs:∀x∈QW c k j,x.1<c.fams.length/\1<=x.2/\x.2<=4:=fun x hx=>by
   rcases List.mem_append.1 hx with h|h
   ·exact H6 hc _ _ (bf _) x h
   ·simp only[bq,bk,or_false]at h;rcases h with rfl|rfl<;>(refine⟨hk,?_,?_⟩<;>show _<=_<;>simp only<;>omega)
  have hl0:(AZ c [(k:Int)]).length<=c.fams.length:=by rw[FW,bz];have:=bm (fun x:Nat=>!decide ((x:Int)∈[(k:Int)])) (bp c.fams.length);simp[KP]at this|-;omega
  have hgl:(QW c k j).length<=9:=by simp only[QW,List.length_append,List.length_cons,List.length_nil];omega
  have hga:(AZ c [(k:Int)]).map AW++[[V.int .i64 (k:Int),V.int .i64 ((j:Int)+1)],[V.int .i64 (k:Int),V.int .i64 ((BO c k).size-((j:Int)+1))]]=(QW c k j).map AW:=by simp[QW,AW]
  have hlen:(QW c k j).length=(AZ c [(k:Int)]).length+2:=by simp[QW]
  have happ:BW bt 151 (AZ c [(k:Int)]).length [[V.int .i64 (k:Int),V.int .i64 ((j:Int)+1)],[V.int .i64 (k:Int),V.int .i64 ((BO c k).size-((j:Int)+1))]]=true:=by rw[BQ (by simp) (by simp)];simp[maxLen];omega
  have hcl:∀(t:St) (l:List (Nat×Int)),CG t (.vec 151 (l.map AW))=.vec 151 (l.map AW):=fun t l=>PA fun e he v hv=>by obtain⟨x,_,rfl⟩:=List.mem_map.1 he;simp only[AW,bq,bk,or_false]at hv;rcases hv with rfl|rfl<;>rfl
  generalize hgp:QW c k j=gp at *;obtain⟨loc,hloc⟩:∃loc:AA,loc=(29,cc+1,AX.dead)::(29,cc+1,.vec 151 (gp.map AW))::(29,cc,.vec 151 ((AZ c [(k:Int)]).map AW))::D:=⟨_,rfl⟩;have hst2:FK (rs++[loc]):=IA hst fun t _=>by rw[hloc];rcases hD with rfl|⟨g,rfl⟩<;>simp[BK,hcl]
  have hsl:sl (gp.map AW)=.list false (gp.map AW):=by
   cases gp with
   |nil=>simp at hlen
   |cons y ys=>rfl
  obtain⟨L1,c1,r1,r2,r3⟩:=ADB hc hgl hgs (rs++[loc]) hst2 (gl:=.list false (gp.map AW)) (.inl hsl.symm) L hL (cc+1+1) (by omega);have q2:∀n fr,G4 (BN bt ann kn (n+6500)) (some 40) ⟨cc+1+1,fr,⟨L::rs,loc⟩⟩ 91 [.ptr 0 911 (γ+1) 0,.list false (gp.map AW)]=some ⟨c1,(40,true,.bool (EZ c (A7 c) gp))::fr,⟨L1::rs,loc⟩⟩:=fun n fr=>by rw[A5 ck b91 rfl (by simp),bj];refine(r3 n 40 fr).trans ?_;rw[<-bj,unsnoc_snoc];rfl
  simp only[hloc]at q2;have hti:=fun fr h=>iK (t:=39) (c:=cc+1+1) (l:=rs.length+1) (q:=29) (γ:=cc+1) (n:=(AZ c [(k:Int)]).length+2) (fr:=fr) (s:=⟨L::rs,(29,cc+1,.vec 151 (gp.map AW))::(29,cc,.vec 151 ((AZ c [(k:Int)]).map AW))::D⟩) (U:=151) (es:=gp.map AW) h (by simp) (by simp;omega) (by omega);have hal:(((AZ c [(k:Int)]).map AW).all fun y=>y.length==bt.cellsOf 151)=true:=by
   have e:bt.cellsOf 151=2:=by kernel_rfl
   simp[e,AW]
  have hcd:=(⟨rfl,rfl,(bz _).symm,hal,by rw[bz];exact happ⟩:cc=cc/\151=151/\(AZ c [(k:Int)]).length=((AZ c [(k:Int)]).map AW).length/\_/\BW bt 151 ((AZ c [(k:Int)]).map AW).length _=true);have htk:(gp.map AW).take ((AZ c [(k:Int)]).length+2)=gp.map AW:=bh (by simp;omega);have qG:=fun n=>AJZ n c (by omega) [(k:Int)] (by simp);have p1:=hL.p1;simp only[CT,AD,li,List.map_cons,bg,AJ]at p1 qG;have hclB:c.chairs.all ((fun e=>e.all (AG 7))∘AU)=true:=bw.2 fun x _=>by simp[AU,BC]
  have hclF:c.fams.all ((fun e=>e.all (AG 7))∘AS)=true:=bw.2 fun x _=>by simp[AS]
  have hcG:∀f:Nat,AG (f+3) (sl ((AZ c [(k:Int)]).map AW))=true:=fun f=>by cases AZ c [(k:Int)]<;>simp[sl,AW]
  have hwG:weakV (sl ((AZ c [(k:Int)]).map AW))=sl ((AZ c [(k:Int)]).map AW):=by cases AZ c [(k:Int)]<;>simp[sl]
  have w0:IntKind.i64.wrap ((BO c k).size.tdiv 2)=(BO c k).size / 2:=by rw[Int.tdiv_eq_ediv_of_nonneg (by omega),AO (by omega) (by omega)]
  have w1:IntKind.i64.wrap ((BO c k).size-((j:Int)+1))=(BO c k).size-((j:Int)+1):=AO (by omega) (by omega);have w2:IntKind.i64.wrap ((j:Int)+1+1)=(j:Int)+1+1:=AO (by omega) (by omega);cases hz:EZ c (A7 c) gp with
  |true=>
   rw[hz]at q2
   have hy:VG (fun n=>EZ c (A7 c) (QW c k n)) (e+1) j=true:=by simp only[VG,hgp,hz,Bool.true_or]
   refine⟨L1,[],c1,[],r1,by omega,fun n m hm=>?_⟩
   obtain⟨m,rfl⟩:∃k',m=k'+1:=⟨m-1,by omega⟩
   rw[AB,if_pos hy]
   rcases hD with rfl|⟨g,rfl⟩
   ·simp[p1,hlt,w0,w1,qG,q2,hga,hti,htk,hcG,hwG,hclB,hclF,CD,EY,B6,XU,J4,P1];rw[if_pos hcd];done
   ·simp[p1,hlt,w0,w1,qG,q2,hga,hti,htk,hcG,hwG,hclB,hclF,CD,EY,B6,XU,J4,P1];rw[if_pos hcd];done
  |false=>
   rw[hz]at q2
   have hy:VG (fun n=>EZ c (A7 c) (QW c k n)) (e+1) j=VG (fun n=>EZ c (A7 c) (QW c k n)) e (j+1):=by simp only[VG,hgp,hz,Bool.false_or]
   obtain⟨L2,D2,c2,x2,hL2,hc2,ih⟩:=lPt c hc k hk rs hst e (j+1) L1 [(29,cc+1,.dead)] c1 (by omega) r1 (by omega) (.inr ⟨_,rfl⟩)
   rw[hy]
   refine⟨L2,D2,c2,x2,hL2,by omega,fun n m hm=>?_⟩
   obtain⟨m,rfl⟩:∃k',m=k'+1:=⟨m-1,by omega⟩
   have ih:=ih n m (by omega)
   rw[AB]
   rcases hD with rfl|⟨g,rfl⟩
   ·simp[p1,hlt,w0,w1,w2,qG,q2,hga,hti,htk,hcG,hwG,hclB,hclF,CD,EY,B6,XU,J4,P1];rw[if_pos hcd];simp at ih;simp[ih];done
   ·simp[p1,hlt,w0,w1,w2,qG,q2,hga,hti,htk,hcG,hwG,hclB,hclF,CD,EY,B6,XU,J4,P1];rw[if_pos hcd];simp at ih;simp[ih];done
theorem AJ0{c:AP}(hc:B0 c){γ:Nat}{B:AA}(k:Nat)(hk:k<c.fams.length)(rs:List AA)(hst:FK rs)(L:AA)(hL:Lw c γ B L)(cc:Nat)(hcc:γ+1<cc):∃L' c',Lw c γ B L'/\cc<=c' /\
  ∀n dd fr,fI bt (some dd) fr Tryz.f94.results.toList (AE bt ann kn (n+7100) 41 c94 ⟨cc,AF 0 [.ptr 0 911 (γ+1) 0,i k],⟨L::rs,[]⟩⟩)=YG (some dd) fr c' (.bool (EP c k)) (CE (L'::rs)):=by
 obtain⟨L',D',c',x,h1,h2,h3⟩:=lPt c hc k hk rs hst ((BO c k).size / 2).toNat 0 L [] cc (by omega) hL hcc (.inl rfl)
 have e:EP c k=VG (fun n=>EZ c (A7 c) (QW c k n)) ((BO c k).size / 2).toNat 0:=by rw[ZC];unfold EP QW;simp only[Nat.zero_add]
 rw[e]
 refine⟨L',c',h1,h2,fun n dd fr=>?_⟩
 have h3:=h3 (n+44) (n+7094) (by have:=(hc.fo _ (iU hk)).1;omega)
 rw[show n+44+7050=n+7094 by omega]at h3
 have p1:=hL.p1
 have sL:=h1.st
 have sR1:∀(A lo:AA),rs.map (AH ⟨A::rs,lo⟩)=rs:=fun A lo=>hst _ (by simp)
 have hfk:c.fams[k]'hk=BO c k:=by simp[BO,bb hk]
 simp only[CT,AD]at p1
 cases hz:VG (fun n=>EZ c (A7 c) (QW c k n)) ((BO c k).size / 2).toNat 0 with
 |true=>
  rw[if_pos hz]at h3
  simp at h3
  simp[c94,AF,p1,hfk,hk,AS,h3,sL,sR1]
 |false=>
  rw[if_neg (by rw[hz];decide)]at h3
  simp at h3
  simp[c94,AF,p1,hfk,hk,AS,h3,sL,sR1]
def X0(c:AP):Nat->Nat->List Int
 |0,_=>[]
 |e+1,j=>(if EP c j=true then[(j:Int)] else[])++X0 c e (j+1)
theorem rZ(c:AP):∀e j,X0 c e j=((List.range' j e).filter (EP c)).map fun (k:Nat)=>(k:Int)
 |0,_=>rfl
 |e+1,j=>by rw[List.range'_succ,List.filter_cons,X0,rZ c e (j+1)];split<;>simp
structure zQ(c:AP)(γ γp:Nat)(out:List Int)(L:AA):Prop where
 w:Lw c γ L L
 p1:L.get 1=some (0,.box (AD c))
 p35:L.get 35=(pl 35 γp 3 (out.map AJ)).get 35
 no:∀k,¬k∈[1,35,910,911]->L.get k=none
theorem zQ.next{c:AP}{γ γp:Nat}{out:List Int}{L L':AA}(h:zQ c γ γp out L)(h':Lw c γ L L'):zQ c γ γp out L' where
 w:=⟨h'.p0,h'.p1,h'.st,fun _ _=>rfl⟩
 p1:=(h'.ot 1 (by decide)).trans h.p1
 p35:=(h'.ot 35 (by decide)).trans h.p35
 no:=fun k hk=>(h'.ot k fun e=>hk (by simp[e])).trans (h.no k hk)
def ML(c:AP)(γ γp:Nat)(out:List Int)(T:List (Sp×C5)):AA:=(1,0,.box (AD c))::(pl 35 γp 3 (out.map AJ)++[(910,γ,.map (T.map GW)),(911,γ+1,.box (CT c γ))])
theorem RW{c:AP}{γ γp:Nat}{out:List Int}{T:List (Sp×C5)}(hT:dK c T):zQ c γ γp out (ML c γ γp out T) where
 w:=⟨⟨T,hT,by cases out <;> simp[ML]⟩,by cases out <;> simp[ML],fun t ht=>by
  have e0:¬0=t.up.length:=by omega
  have hcE:∀l∈A7 c,encA l=l.map fun x=>i x:=fun _ _=>rfl;have hs:=kV t T;obtain⟨up,lo⟩:=t;simp only at e0;have hv:=LZ ⟨up,lo⟩ 3 out;cases out <;> (simp[AJ]at hv; simp[ML,CT,AD,AJ,hs,hv]),fun _ _=>rfl⟩
 p1:=by simp[ML]
 p35:=by cases out<;>simp[ML]
 no:=fun k hk=>by simp only[bq,bk,or_false,not_or]at hk;cases out<;>simp[ML,hk.1,hk.2.1,hk.2.2.1,hk.2.2.2]
theorem lPa(c:AP)(hc:B0 c)(γ:Nat):∀(d k:Nat) (out:List Int) (L:AA) (γp cc:Nat),k+d=c.fams.length->out.length<=k->zQ c γ γp out L->γ+1<cc->γp<cc ->
  ∃(γ' c':Nat) (L':AA) (fr:Fr),zQ c γ γ' (out++X0 c d k) L'/\BG fr 6=some (true,pv 35 γ' ((out++X0 c d k).map AJ))/\∀n m,d<m ->
   A8 (AE bt ann kn (n+7500) 38) aB (ann 38 (BU aB)) m ⟨cc,[(4,true,.ptr 0 911 (γ+1) 0),(6,true,pv 35 γp (out.map AJ)),(25,true,i c.fams.length),(26,true,i k)],⟨[],L⟩⟩ =
    some (.exit 0,⟨c',fr,⟨[],L'⟩⟩)
 |0,k,out,L,γp,cc,hd,ho,hL,hcc,hcp=>by
  have hnot:¬((k:Int)<(c.fams.length:Int)):=by omega
  obtain⟨T,hT,p910⟩:=hL.w.p0;have p911:=hL.w.p1;have p1:=hL.p1;have p35:=hL.p35;have n10:=hL.no 10 (by decide);have n21:=hL.no 21 (by decide);refine⟨γp,cc,ML c γ γp out T,[(27,true,.bool false),(4,true,.ptr 0 911 (γ+1) 0),(6,true,pv 35 γp (out.map AJ)),(25,true,i c.fams.length),(26,true,i k)],by rw[X0,List.append_nil];exact RW hT,?g1,fun n m hm=>?g⟩;case g=>
   obtain⟨m,rfl⟩:∃k',m=k'+1:=⟨m-1,by omega⟩
   cases out<;>simp[AB,ML,hnot,p1,p35,p910,p911,n10,n21]
  case g1=>simp[X0]
 |d+1,k,out,L,γp,cc,hd,ho,hL,hcc,hcp=>by
  have hfl:=hc.fl;have hk:k<c.fams.length:=by omega
  have hlt:(k:Int)<(c.fams.length:Int):=by omega
  have hw:=BM (k:=k) (by omega);obtain⟨T,hT,o910⟩:=hL.w.p0;have o911:=hL.w.p1;have o1:=hL.p1;have o35:=hL.p35;have m10:=hL.no 10 (by decide);have m21:=hL.no 21 (by decide);have hA:=RW (c:=c) (γ:=γ) (γp:=γp) (out:=out) hT;obtain⟨L1,c1,r1,r2,r3⟩:=AJ0 hc k hk [] (fun _ _=>rfl) (ML c γ γp out T) hA.w cc hcc;have hB:=hA.next r1;obtain⟨T1,hT1,p910⟩:=hB.w.p0;have p911:=hB.w.p1;have p1:=hB.p1;have p35:=hB.p35;have n10:=hB.no 10 (by decide);have n21:=hB.no 21 (by decide);have q2:∀n fr,G4 (BN bt ann kn (n+7100)) (some 31) ⟨cc,fr,⟨[],ML c γ γp out T⟩⟩ 94 [.ptr 0 911 (γ+1) 0,i k]=some ⟨c1,(31,true,.bool (EP c k))::fr,⟨[],L1⟩⟩:=fun n fr=>by rw[A5 Tryz.func94 b94 rfl (by simp)];exact r3 n 31 fr
  have happ:BW bt 3 out.length [[.int .i64 k]]=true:=by rw[BQ (by simp) (by simp)];simp[maxLen];omega
  have hpt:X0 c (d+1) k=(if EP c k=true then[(k:Int)] else[])++X0 c d (k+1):=rfl;rw[hpt];cases hz:EP c k with
  |true=>
   rw[hz]at q2
   obtain⟨γ',c',L',fr,h1,h2,h3⟩:=lPa c hc γ d (k+1) (out++[(k:Int)]) (ML c γ c1 (out++[(k:Int)]) T1) c1 (c1+1) (by omega) (by simp;omega) (RW hT1) (by omega) (by omega)
   rw[if_pos rfl,<-List.append_assoc]
   refine⟨γ',c',L',fr,h1,h2,fun n m hm=>?_⟩
   obtain⟨m,rfl⟩:∃k',m=k'+1:=⟨m-1,by omega⟩
   have h3:=h3 n m (by omega)
   rw[AB]
   cases out with
   |nil=>
    simp[ML,AJ,pv]at h3 q2 happ
    simp[hlt,hw,happ,o1,o35,o910,o911,m10,m21,q2,p1,p35,p910,p911,n10,n21,h3]
   |cons a r=>
    simp[ML,AJ]at h3 q2 happ
    simp[hlt,hw,AJ,happ,o1,o35,o910,o911,m10,m21,q2,p1,p35,p910,p911,n10,n21,h3]
  |false=>
   rw[hz]at q2
   obtain⟨γ',c',L',fr,h1,h2,h3⟩:=lPa c hc γ d (k+1) out (ML c γ γp out T1) γp c1 (by omega) (by omega) (RW hT1) (by omega) (by omega)
   rw[if_neg (by decide),bn]
   refine⟨γ',c',L',fr,h1,h2,fun n m hm=>?_⟩
   obtain⟨m,rfl⟩:∃k',m=k'+1:=⟨m-1,by omega⟩
   have h3:=h3 n m (by omega)
   rw[AB]
   cases out with
   |nil=>
    simp[ML]at h3 q2 happ
    simp[hlt,hw,o1,o35,o910,o911,m10,m21,q2,p1,p35,p910,p911,n10,n21,h3]
   |cons a r=>
    simp[ML,AJ]at h3 q2 happ
    simp[hlt,hw,AJ,o1,o35,o910,o911,m10,m21,q2,p1,p35,p910,p911,n10,n21,h3]
theorem ARW(n:Nat)(c:AP)(h40:∀l∈c.beach.winds,l.length<=40)(hch:c.chairs.length<=40):AY bt kn (AE bt ann kn (n+9600)) 42 [.agg (AD c)]=some (.tup [sl ((iT c).1.map AJ),i (iT c).2]):=by
 rw[AN rfl,AM Tryz.func42 b42 rfl (by simp[AD,AU,BC,AS])];unfold iT;by_cases h:E3 c=0
 ·rw[if_neg (by simp[h])];have hc:=U9 h;have hfl:=hc.fl;obtain⟨g',hg,q⟩:=vS c hc [(1,0,.box (AD c))] (fun t _=>vT c 1 0 t) 1 10 [(9,true,.agg (AD c)),(1,true,.ptr 0 1 0 0)];have q:=fun n=>q (n+1596);have hT0:dK c []:=⟨by simp,by simp,by simp⟩;have hgs:∀x∈AZ c [],x.1<c.fams.length/\1<=x.2/\x.2<=4:=fun x hx=>H6 hc [] _ (bf _) x hx;have hgl:(AZ c []).length<=9:=by rw[ZB];omega
  obtain⟨L1,c1,r1,r2,r3⟩:=ADB hc hgl hgs [] (fun _ _=>rfl) (.inl rfl) (lvW c 1 2) (ARU c 1 2 (by omega)) g' (by omega);have hcb:=fun n fr=>(A5 (A:=ann) (kn:=kn) (n:=n+6500) ck b91 rfl (args:=[.ptr 0 911 (2+1) 0,sl ((AZ c []).map AW)]) (by simp) (some 22) g' fr [] (lvW c 1 2)).trans (r3 n 22 fr);have qG:=fun n=>vU n c (by omega) [] (by simp);have hwG:weakV (sl ((AZ c []).map AW))=sl ((AZ c []).map AW):=by cases AZ c []<;>simp[sl]
  have hca:FI c []=EZ c (A7 c) (AZ c []):=rfl;rw[hca];obtain⟨T1,hT1,p910⟩:=r1.p0;have p911:=r1.p1;have p1:L1.get 1=some (0,.box (AD c)):=r1.ot 1 (by decide);have hno:∀k,¬k∈[1,910,911]->L1.get k=none:=fun k hk=>(r1.ot k fun e=>hk (by simp[e])).trans (by
   simp only[bq,bk,or_false,not_or]at hk;simp[lvW,hk.1,hk.2.1,hk.2.2])
  have n10:=hno 10 (by decide);have n21:=hno 21 (by decide);have n35:=hno 35 (by decide);generalize sl ((AZ c []).map AW)=gl at *;cases hz:EZ c (A7 c) (AZ c [])with
  |true=>
   rw[hz]at hcb
   simp only[AD,CT,lvW,li,bg,bc]at q qG hcb p1 p911|-
   simp at hcb
   simp[c42,AF,AU,BC,AS,q,qG,hcb,hwG,dJ]
  |false=>
   rw[hz]at hcb
   obtain⟨γ',c',L',fr,h1,h2,h3⟩:=lPa c hc 2 c.fams.length 0 [] (ML c 2 0 [] T1) 0 c1 (by omega) (by simp) (RW hT1) (by omega) (by omega)
   rw[bn]at h1 h2
   have e:X0 c c.fams.length 0=((bp c.fams.length).filter (EP c)).map fun (k:Nat)=>(k:Int):=by rw[rZ,<-List.range_eq_range']
   rw[<-e]
   have h3:=h3 (n+2091) (n+9591) (by omega)
   rw[show n+2091+7500=n+9591 by omega]at h3
   obtain⟨T2,hT2,y910⟩:=h1.w.p0
   have y911:=h1.w.p1
   have y1:=h1.p1
   have y35:=h1.p35
   generalize X0 c c.fams.length 0=R at *
   have hcR:∀f:Nat,AG (f+3) (sl (R.map AJ))=true:=fun f=>by cases R<;>simp[sl,AJ]
   simp only[AD,CT,lvW,ML,li,bg,bc]at q qG hcb p1 p911 h3|-
   simp at hcb h3
   simp[c42,AF,AU,BC,AS,q,qG,hcb,hwG,p1,p910,p911,n10,n21,h3,h2,y35,hcR]
 ·rw[if_pos h];have q:=Y9 c h40 hch h [(1,0,.box (AD c))] (fun t _=>vT c 1 0 t) 1 10 [(9,true,.agg (AD c)),(1,true,.ptr 0 1 0 0)];have q:=fun n=>q (n+1596);generalize E3 c=E at *;simp only[AD,Nat.add_assoc,bc]at q|-;simp[c42,AF,q,h,dJ]
end Go.Proofs.Tryz.Op
