/- The search of Leave: sets of a size, one after another. No condition but a valid case. -/
import Derived.Test.YthhdhbalenanjaaGreatC2
open Go.Proofs.Tryz renaming prog->cj,f90->ck,func91->cq
open List renaming cons_append->bj,not_mem_nil->bk,mem_cons->bq,all_eq_true->bw,length_map->bz,getElem?_eq_getElem->bb,map_nil->bg,take_of_length_le->bh,length_filter_le->bm,nil_append->bn,range->bp
open Nat renaming reduceAdd->bc,le_refl->bf
set_option maxRecDepth 100000
set_option linter.unusedSimpArgs false
open Go Go.Pg Go.Proofs Go.Wind
namespace Go.Proofs.Tryz.Op
@[simp] theorem AZ9:H0 cj 93=true:=by kernel_rfl
theorem BA0:I3 cj .eql 22 .nil .nil=some (.bool true):=by kernel_rfl
theorem A0A(e:List V)(es:List (List V)):I3 cj .eql 22 (.list false (e::es)) .nil=some (.bool false):=by
 have h:DN cj 22=true:=by kernel_rfl
 show(if DN cj 22=true then(IH (.list false (e::es))).map V.bool else none)=_;rw[if_pos h];rfl
theorem AQG(n:Nat)(xs:List Int)(hl:xs.length<=90):H1 cj (AE cj ann kn (n+100)) 93 [sl (xs.map AJ)]=some ⟨.vec 3 (xs.map AJ),none⟩:=by
 rw[WD Tryz.func93 b93 rfl (by simp)];cases xs with
 |nil=>
  simp[c93,AD,YC,sl,BA0]
  exact oU (R:=22) (T:=3) (by kernel_rfl) (by simp) _ _ _ 0 0 [] rfl rfl
 |cons x xs=>
  have ha:BV cj 3 0 ((x::xs).map AJ)=true:=by rw[BS (by simp) (by simp)];simp[maxLen,AJ]at hl|-;omega
  simp only[sl,List.map_cons]at ha|-
  simp[c93,AD,YC,ha,A0A]
  rw[show xs.length+1=(AJ x::xs.map AJ).length by simp]
  exact oU (P:=cj) (R:=22) (T:=3) (by kernel_rfl) (by simp) _ _ _ 7 0 (AJ x::xs.map AJ) (by simp) (by simp[AJ])
theorem Lw.self{c:AR}{γ:Nat}{B L:AA}(h:Lw c γ B L):Lw c γ L L:=⟨h.p0,h.p1,h.st,fun _ _=>rfl⟩
structure VB(c:AR)(γ g:Nat)(f:List Int)(L:AA):Prop where
 w:Lw c γ L L
 p1:L.get 1=some (0,.box (AF c))
 p4:L.get 4=some (g,.box [.ptr 0 911 (γ+1) 0])
 p6:L.get 6=some (g+1,.box [sl (f.map AJ)])
 p7:L.get 7=some (g+1+1,.box [.fn 90 [] [.ptr 0 6 (g+1) 0,.ptr 0 4 g 0,.ptr 0 1 0 0,.ptr 0 7 (g+1+1) 0]])
 no:∀k,¬k∈[1,4,6,7,910,911]->L.get k=none
theorem VB.next{c:AR}{γ g:Nat}{f:List Int}{L L':AA}(h:VB c γ g f L)(h':Lw c γ L L'):VB c γ g f L' where
 w:=h'.self
 p1:=(h'.ot 1 (by decide)).trans h.p1
 p4:=(h'.ot 4 (by decide)).trans h.p4
 p6:=(h'.ot 6 (by decide)).trans h.p6
 p7:=(h'.ot 7 (by decide)).trans h.p7
 no:=fun k hk=>(h'.ot k fun e=>hk (by simp[e])).trans (h.no k hk)
theorem VB.put{c:AR}{γ g:Nat}{f:List Int}{L:AA}(h:VB c γ g f L)(out:List Int):VB c γ g out ((6,g+1,.box [sl (out.map AJ)])::L) where
 w:=⟨by obtain⟨T,h1,h2⟩:=h.w.p0;exact⟨T,h1,by simpa using h2⟩,by simpa using h.w.p1,fun t ht=>by simp[h.w.st t ht],fun _ _=>rfl⟩
 p1:=by simpa using h.p1
 p4:=by simpa using h.p4
 p6:=by simp
 p7:=by simpa using h.p7
 no:=fun k hk=>by have:¬k=6:=fun e=>hk (by simp[e]);rw[<-h.no k hk];simp[this]
def ACU(c:AR)(γ g M m:Nat):Prop:=∀(rs:List AA) (f:List Int) (L:AA) (out:List Int) (fr0 cc:Nat),VB c γ g f L->ED rs->γ+1<cc->g+1+1<cc->out.length+m<=c.fams.length->fr0<=c.fams.length ->
 ∃L' f' c',VB c γ g f' L'/\cc<=c'/\(∀x,DX (FP c) c.fams.length m fr0 out=some x->f'=x) /\
  ∀(n dd:Nat) (fr:Fr),XT cj (some dd) fr ck.results.toList (AE cj ann kn (n+M) ck.ntmps c90 ⟨cc,AD 0 [sl (out.map AJ),i fr0,i m,.ptr 0 6 (g+1) 0,.ptr 0 4 g 0,.ptr 0 1 0 0,.ptr 0 7 (g+1+1) 0],⟨L::rs,[]⟩⟩) =
   RV (some dd) fr c' (.bool (DX (FP c) c.fams.length m fr0 out).isSome) (B8 (L'::rs))
theorem BA1(c:AR)(hc:B7 c)(γ g:Nat):ACU c γ g 7000 0:=by
 intro rs f L out fr0 cc hL hst hcc hcg ho hfr;have hfl:=hc.fl;have hP:=hL.put out;have hgs:∀x∈AV c out,x.1<c.fams.length/\1<=x.2/\x.2<=4:=fun x hx=>J5 hc out _ (bf _) x hx;have hgl:(AV c out).length<=9:=by rw[JO,bz];have:=bm (fun k:Nat=>!decide ((k:Int)∈out)) (bp c.fams.length);simp[J4]at this|-;omega
 have hgr:cS (rs++[[]]) (AV c out) (sl ((AV c out).map BL)):=.inl rfl;have hst2:ED (rs++[[]]):=E5 hst fun t _=>rfl;obtain⟨L',c',r1,r2,r3⟩:=ACR hc hgl hgs (rs++[[]]) hst2 hgr _ hP.w cc (by omega);have hz:(DX (FP c) c.fams.length 0 fr0 out).isSome=J3 c (AU c) (AV c out):=by show(if FP c out=true then some out else none).isSome=_;unfold FP;cases J3 c (AU c) (AV c out)<;>rfl
 refine⟨L',out,c',hP.next r1,r2,fun x hx=>?_,fun n dd fr=>?_⟩
 ·unfold DX at hx;split at hx
  ·cases hx;rfl
  ·cases hx
 ·rw[hz];have qG:=fun n=>gP n c (by omega) out (by omega);have q2:∀n fr,HC (BG cj ann kn (n+6500)) (some 22) ⟨cc,fr,⟨((6,g+1,.box [sl (out.map AJ)])::L)::rs,[]⟩⟩ 91 [.ptr 0 911 (γ+1) 0,sl ((AV c out).map BL)]=some ⟨c',(22,true,.bool (J3 c (AU c) (AV c out)))::fr,⟨L'::rs,[]⟩⟩:=fun n fr=>by rw[A3 cq b91 rfl (by simp),bj];refine(r3 n 22 fr).trans ?_;rw[<-bj,unsnoc_snoc];rfl
  generalize J3 c (AU c) (AV c out)=z at q2|-;have p1:=hL.w.p1;have p4:=hL.p4;have p6:=hL.p6;have sL:=r1.st;have hg1:g+1<cc:=by omega
  simp only[show ck.ntmps=44 from rfl];have hclB:c.chairs.all ((fun e=>e.all (AG 7))∘AS)=true:=bw.2 fun x _=>by simp[AS,BF]
  have hclF:c.fams.all ((fun e=>e.all (AG 7))∘AY)=true:=bw.2 fun x _=>by simp[AY]
  have hcG:∀f:Nat,AG (f+3) (sl ((AV c out).map BL))=true:=fun f=>by cases AV c out<;>simp[sl,BL]
  have hwG:weakV (sl ((AV c out).map BL))=sl ((AV c out).map BL):=by cases AV c out<;>simp[sl]
  generalize sl ((AV c out).map BL)=gl at *;simp only[CJ,AF]at p1 qG;have sR1:∀(A lo:AA),rs.map (AH ⟨A::rs,lo⟩)=rs:=fun A lo=>hst _ (by simp);simp[c90,AD,p1,p4,p6,qG,q2,hg1,hwG,hclB,hclF,AA.put,CE,CH,sL,sR1]
theorem lLe(c:AR)(hc:B7 c)(γ g W m:Nat)(hrec:ACU c γ g (W+7000) m)(rs:List AA)(hst:ED rs)(out:List Int)(ho:out.length+(m+1)<=c.fams.length) :
  ∀(e j:Nat) (f:List Int) (L D:AA) (cc:Nat),c.fams.length-m-j=e->j<=c.fams.length->VB c γ g f L->γ+1<cc->g+1+1<cc->(D=[]\/∃g,D=[(35,g,.dead)]) ->
  ∃(L' D':AA) (f':List Int) (c':Nat) (x:Fr),VB c γ g f' L'/\cc<=c'/\(∀y,C5 (fun j=>DX (FP c) c.fams.length m (j+1) (out++[(j:Int)])) e j=some y->f'=y) /\
   ∀n k,e<k->BJ (AE cj ann kn (n+W+7050) 44) ZA (ann 44 (B9 ZA)) k ⟨cc,[(0,true,sl (out.map AJ)),(2,true,i ((m+1:Nat):Int)),(5,true,.ptr 0 1 0 0),(6,true,.ptr 0 7 (g+1+1) 0),(11,true,i j)],⟨L::rs,D⟩⟩ =
    match C5 (fun j=>DX (FP c) c.fams.length m (j+1) (out++[(j:Int)])) e j with
    |some _=>some (.ret,⟨c',[(10,true,.bool true)],⟨L'::rs,[]⟩⟩)
    |none=>some (.exit 0,⟨c',x,⟨L'::rs,D'⟩⟩)
 |0,j,f,L,D,cc,he,hj,hL,hcc,hcg,hD=>by
  have hl:=hc.fl;have p1:=hL.p1;have hw:IntKind.i64.wrap ((c.fams.length:Int)-((m+1:Nat):Int))=(c.fams.length:Int)-((m+1:Nat):Int):=AW (by omega) (by omega);have hnot:¬((j:Int)<=(c.fams.length:Int)-((m+1:Nat):Int)):=by omega
  simp only[AF]at p1;generalize ((m+1:Nat):Int)=mi at *;refine⟨L,D,f,cc,?_,hL,bf _,fun y hy=>(by cases hy),fun n k hk=>?_⟩;rotate_left
  ·obtain⟨k,rfl⟩:∃k',k=k'+1:=⟨k-1,by omega⟩;rcases hD with rfl|⟨g,rfl⟩
   ·simp[AB,C5,p1,hw,hnot];rfl
   ·simp[AB,C5,p1,hw,hnot]
 |e+1,j,f,L,D,cc,he,hj,hL,hcc,hcg,hD=>by
  have hl:=hc.fl;have p1:=hL.p1;have p7:=hL.p7;have hw:IntKind.i64.wrap ((c.fams.length:Int)-((m+1:Nat):Int))=(c.fams.length:Int)-((m+1:Nat):Int):=AW (by omega) (by omega);have hle:(j:Int)<=(c.fams.length:Int)-((m+1:Nat):Int):=by omega
  have hw1:IntKind.i64.wrap ((j:Int)+1)=(j:Int)+1:=AW (by omega) (by omega);have hw2:IntKind.i64.wrap (((m+1:Nat):Int)-1)=(m:Int):=by rw[AW (by omega) (by omega)];omega
  simp only[AF]at p1;have qC:=fun n=>AQG n out (by omega);have happ:BV cj 3 out.length [[.int .i64 j]]=true:=by rw[BS (by simp) (by simp)];simp[maxLen];omega
  have hga:(out.map AJ++[[V.int .i64 (j:Int)]])=(out++[(j:Int)]).map AJ:=by simp[AJ]
  have hlen:(out++[(j:Int)]).length=out.length+1:=by simp
  generalize hout:out++[(j:Int)]=out' at *;obtain⟨loc,hloc⟩:∃loc:AA,loc=[(35,cc+1,AX.dead),(35,cc+1,.vec 3 (out'.map AJ)),(35,cc,.vec 3 (out.map AJ))]:=⟨_,rfl⟩;have hcl:∀(t:St) (l:List Int),CG t (.vec 3 (l.map AJ))=.vec 3 (l.map AJ):=fun t l=>MF fun e he v hv=>by obtain⟨x,_,rfl⟩:=List.mem_map.1 he;simp only[AJ,bq,bk,or_false]at hv;rw[hv];rfl
  have hst':ED (rs++[loc]):=E5 hst fun t ht=>by rw[hloc];simp[A0,hcl]
  obtain⟨L1,f1,c1,hL1,hc1,hf1,q⟩:=hrec (rs++[loc]) f L out' (j+1) (cc+1+1) hL hst' (by omega) (by omega) (by omega) (by omega);have q2:∀n fr,HC (BG cj ann kn (n+W+7045)) (some 43) ⟨cc+1+1,fr,⟨L::rs,loc⟩⟩ 90 [sl (out'.map AJ),i ((j+1:Nat):Int),i m,.ptr 0 6 (g+1) 0,.ptr 0 4 g 0,.ptr 0 1 0 0,.ptr 0 7 (g+1+1) 0]=some ⟨c1,(43,true,.bool (DX (FP c) c.fams.length m (j+1) out').isSome)::fr,⟨L1::rs,loc⟩⟩:=fun n fr=>by have q:=q (n+45) 43 fr;rw[show n+45+(W+7000)=n+W+7045 by omega]at q;rw[A3 Tryz.func90 b90 rfl (by simp),bj,q,<-bj,unsnoc_snoc];rfl
  have hti:=fun fr h=>fZ (t:=38) (c:=cc+1+1) (l:=rs.length+1) (q:=35) (γ:=cc+1) (n:=out.length+1) (fr:=fr) (s:=⟨L::rs,[(35,cc+1,.vec 3 (out'.map AJ)),(35,cc,.vec 3 (out.map AJ))]⟩) (U:=3) (es:=out'.map AJ) h (by simp) (by simp;omega) (by omega);have htk:(out'.map AJ).take (out.length+1)=out'.map AJ:=bh (by simp;omega);have hsl:sl (out'.map AJ)=.list false (out'.map AJ):=by
   cases out' with
   |nil=>simp at hlen
   |cons y ys=>rfl
  rw[hsl]at q2;simp only[hloc]at q2;cases hz:DX (FP c) c.fams.length m (j+1) out' with
  |some y=>
   rw[hz]at q2
   simp only[Option.isSome_some]at q2
   have hy:C5 (fun j=>DX (FP c) c.fams.length m (j+1) (out++[(j:Int)])) (e+1) j=some y:=by simp only[C5];rw[hout,hz]
   refine⟨L1,[],f1,c1,[],hL1,by omega,fun y' hy'=>?_,fun n k hk=>?_⟩
   ·rw[hy]at hy';cases hy';exact hf1 _ hz
   ·obtain⟨k,rfl⟩:∃k',k=k'+1:=⟨k-1,by omega⟩;rw[AB,hy];generalize ((m+1:Nat):Int)=mi at *;simp at q2;rcases hD with rfl|⟨g,rfl⟩
    ·simp[p1,p7,hw,hle,hw1,hw2,qC,happ,JF,AJ,hga,hti,htk,q2];done
    ·simp[p1,p7,hw,hle,hw1,hw2,qC,happ,JF,AJ,hga,hti,htk,q2];done
  |none=>
   rw[hz]at q2
   simp only[Option.isSome_none]at q2
   have hy:C5 (fun j=>DX (FP c) c.fams.length m (j+1) (out++[(j:Int)])) (e+1) j=C5 (fun j=>DX (FP c) c.fams.length m (j+1) (out++[(j:Int)])) e (j+1):=by simp only[C5];rw[hout,hz]
   obtain⟨L2,D2,f2,c2,x2,hL2,hc2,hf2,ih⟩:=lLe c hc γ g W m hrec rs hst out ho e (j+1) f1 L1 [(35,cc+1,.dead)] c1 (by omega) (by omega) hL1 (by omega) (by omega) (.inr ⟨_,rfl⟩)
   rw[hy]
   refine⟨L2,D2,f2,c2,x2,hL2,by omega,hf2,fun n k hk=>?_⟩
   obtain⟨k,rfl⟩:∃k',k=k'+1:=⟨k-1,by omega⟩
   have ih:=ih n k (by omega)
   rw[AB]
   generalize C5 (fun j=>DX (FP c) c.fams.length m (j+1) (out++[(j:Int)])) e (j+1)=r at ih|-
   generalize ((m+1:Nat):Int)=mi at *
   simp at q2 ih
   rcases hD with rfl|⟨g,rfl⟩
   ·simp[p1,p7,hw,hle,hw1,hw2,qC,happ,JF,AJ,hga,hti,htk,q2,ih];done
   ·simp[p1,p7,hw,hle,hw1,hw2,qC,happ,JF,AJ,hga,hti,htk,q2,ih];done
theorem kLe(c:AR)(hc:B7 c)(γ g:Nat):∀m,ACU c γ g (100*m+7000) m
 |0=>BA1 c hc γ g
 |m+1=>by
  intro rs f L out fr0 cc hL hst hcc hcg ho hfr;have hl:=hc.fl;obtain⟨L1,D1,f1,c1,x,hL1,hc1,hf1,hlp⟩:=lLe c hc γ g (100*m) m (kLe c hc γ g m) rs hst out ho (c.fams.length-m-fr0) fr0 f L [] cc rfl hfr hL hcc hcg (.inl rfl);have hsr:DX (FP c) c.fams.length (m+1) fr0 out=C5 (fun j=>DX (FP c) c.fams.length m (j+1) (out++[(j:Int)])) (c.fams.length-m-fr0) fr0:=rfl;rw[hsr];refine⟨L1,f1,c1,hL1,hc1,hf1,fun n dd fr=>?_⟩;have hlp:=hlp (n+44) (n+100*m+7094) (by omega);have hm1:¬(((m+1:Nat):Int)=0):=by omega
  rw[show n+44+100*m+7050=n+100*m+7094 by omega]at hlp;rw[show n+(100*(m+1)+7000)=n+100*m+7100 by omega];simp only[show ck.ntmps=44 from rfl];generalize C5 (fun j=>DX (FP c) c.fams.length m (j+1) (out++[(j:Int)])) (c.fams.length-m-fr0) fr0=r at hlp|-;generalize ((m+1:Nat):Int)=mi at *;have hs1:=hL1.w.st;have sR1:∀(A lo:AA),rs.map (AH ⟨A::rs,lo⟩)=rs:=fun A lo=>hst _ (by simp);cases r with
  |some y=>
   simp at hlp
   simp[c90,AD,hm1,hlp,hs1,sR1]
   done
  |none=>
   simp at hlp
   simp[c90,AD,hm1,hlp,hs1,sR1]
   done
def NW(c:AR)(γ g:Nat)(f:List Int)(T:List (Sp×B0)):AA:=[(1,0,.box (AF c)),(4,g,.box [.ptr 0 911 (γ+1) 0]),(6,g+1,.box [sl (f.map AJ)]),(7,g+1+1,.box [.fn 90 [] [.ptr 0 6 (g+1) 0,.ptr 0 4 g 0,.ptr 0 1 0 0,.ptr 0 7 (g+1+1) 0]]),(910,γ,.map (T.map HB)),(911,γ+1,.box (CJ c γ))]
theorem XW{c:AR}{γ g:Nat}{f:List Int}{T:List (Sp×B0)}(hT:bZ c T):VB c γ g f (NW c γ g f T) where
 w:=⟨⟨T,hT,by simp[NW]⟩,by simp[NW],fun t ht=>by
  have e0:¬0=t.up.length:=by omega
  have hcE:∀l∈AU c,encA l=l.map fun x=>i x:=fun _ _=>rfl;have hs:=jK t T;obtain⟨up,lo⟩:=t;simp only at e0;simp[NW,CJ,AF,e0,hs],fun _ _=>rfl⟩
 p1:=by simp[NW]
 p4:=by simp[NW]
 p6:=by simp[NW]
 p7:=by simp[NW]
 no:=fun k hk=>by simp only[bq,bk,or_false,not_or]at hk;simp[NW,hk.1,hk.2.1,hk.2.2.1,hk.2.2.2.1,hk.2.2.2.2.1,hk.2.2.2.2.2]
theorem ACV(c:AR)(hc:B7 c)(γ g:Nat):∀(e j:Nat) (f:List Int) (L:AA) (cc:Nat),j+e=c.fams.length+1->VB c γ g f L->γ+1<cc->g+1+1<cc ->
  ∃(f':List Int) (L':AA) (c':Nat) (fr:Fr),VB c γ g f' L'/\BD fr 6=some (true,.ptr 0 6 (g+1) 0)/\(∀y,C5 (fun m=>DX (FP c) c.fams.length m 0 []) e j=some y->f'=y)/\∀n k,e<k ->
   BJ (AE cj ann kn (n+8500) 30) ZB (ann 30 (B9 ZB)) k ⟨cc,[(6,true,.ptr 0 6 (g+1) 0),(7,true,.ptr 0 7 (g+1+1) 0),(21,true,i ((c.fams.length+1:Nat):Int)),(22,true,i j)],⟨[],L⟩⟩ =
    some (.exit 0,⟨c',fr,⟨[],L'⟩⟩)
 |0,j,f,L,cc,hd,hL,hcc,hcg=>by
  have hnot:¬((j:Int)<((c.fams.length+1:Nat):Int)):=by omega
  generalize ((c.fams.length+1:Nat):Int)=N at *;obtain⟨T,hT,p910⟩:=hL.w.p0;have p911:=hL.w.p1;have n11:=hL.no 11 (by decide);have n27:=hL.no 27 (by decide);have p1:=hL.p1;have p4:=hL.p4;have p6:=hL.p6;have p7:=hL.p7;refine⟨f,NW c γ g f T,cc,?fr,XW hT,?g1,fun y hy=>(by cases hy),fun n k hk=>?g⟩;case g=>
   obtain⟨k,rfl⟩:∃k',k=k'+1:=⟨k-1,by omega⟩
   simp[AB,NW,hnot,p1,p4,p6,p7,p910,p911,n11]
   rfl
  case g1=>simp
 |e+1,j,f,L,cc,hd,hL,hcc,hcg=>by
  have hl:=hc.fl;have hlt:(j:Int)<((c.fams.length+1:Nat):Int):=by omega
  have hw:=BW (k:=j) (by omega);obtain⟨T,hT,o910⟩:=hL.w.p0;have o911:=hL.w.p1;have m11:=hL.no 11 (by decide);have m27:=hL.no 27 (by decide);have o1:=hL.p1;have o4:=hL.p4;have o6:=hL.p6;have o7:=hL.p7;obtain⟨L1,f1,c1,hL1,hc1,hf1,q⟩:=kLe c hc γ g j [] f (NW c γ g f T) [] 0 cc (XW hT) (fun t _=>rfl) hcc hcg (by simp;omega) (by omega);obtain⟨T1,hT1,p910⟩:=hL1.w.p0;have p911:=hL1.w.p1;have n11:=hL1.no 11 (by decide);have n27:=hL1.no 27 (by decide);have n3:=hL1.no 3 (by decide);have n8:=hL1.no 8 (by decide);have n25:=hL1.no 25 (by decide);have p1:=hL1.p1;have p4:=hL1.p4;have p6:=hL1.p6;have p7:=hL1.p7;have q2:∀n fr,HC (BG cj ann kn (n+8493)) (some 27) ⟨cc,fr,⟨[],NW c γ g f T⟩⟩ 90 [.nil,i 0,i j,.ptr 0 6 (g+1) 0,.ptr 0 4 g 0,.ptr 0 1 0 0,.ptr 0 7 (g+1+1) 0]=some ⟨c1,(27,true,.bool (DX (FP c) c.fams.length j 0 []).isSome)::fr,⟨[],L1⟩⟩:=fun n fr=>by have q:=q (n+1493-100*j) 27 fr;rw[show n+1493-100*j+(100*j+7000)=n+8493 by omega]at q;rw[A3 Tryz.func90 b90 rfl (by simp)];have hs:sl (List.map AJ [])=.nil:=rfl;rw[hs]at q;simp only[Int.natCast_zero,bn]at q|-;rw[q];rfl
  cases hz:DX (FP c) c.fams.length j 0 []with
  |some y=>
   rw[hz]at q2
   have hy:C5 (fun m=>DX (FP c) c.fams.length m 0 []) (e+1) j=some y:=by simp only[C5];rw[hz]
   rw[hy]
   generalize ((c.fams.length+1:Nat):Int)=N at *
   refine⟨f1,L1,c1,?fr2,hL1,?g3,fun y' h=>?g5,fun n k hk=>?g4⟩
   case g5=>
    cases h
    exact hf1 _ hz
   case g4=>
    obtain⟨k,rfl⟩:∃k',k=k'+1:=⟨k-1,by omega⟩
    rw[AB]
    simp only[NW]at q2|-
    simp at q2
    simp[hlt,o1,o4,o6,o7,o910,o911,m11,q2]
    rfl
   case g3=>simp
  |none=>
   rw[hz]at q2
   have hy:C5 (fun m=>DX (FP c) c.fams.length m 0 []) (e+1) j=C5 (fun m=>DX (FP c) c.fams.length m 0 []) e (j+1):=by simp only[C5];rw[hz]
   obtain⟨f2,L2,c2,fr2,hL2,hg2,hf2,ih⟩:=ACV c hc γ g e (j+1) f1 (NW c γ g f1 T1) c1 (by omega) (XW hT1) (by omega) (by omega)
   rw[hy]
   refine⟨f2,L2,c2,fr2,hL2,hg2,hf2,fun n k hk=>?_⟩
   obtain⟨k,rfl⟩:∃k',k=k'+1:=⟨k-1,by omega⟩
   have ih:=ih n k (by omega)
   generalize ((c.fams.length+1:Nat):Int)=N at *
   rw[AB]
   simp only[NW]at q2 ih|-
   simp at q2 ih
   simp[hlt,hw,o1,o4,o6,o7,o910,o911,m11,p1,p4,p6,p7,p910,p911,n11,n3,n8,q2,ih]
theorem yU(c:AR):(Q3 (FP c) c.fams.length).isSome=true:=by obtain⟨y,h,_⟩:=WO c;rw[h];rfl
theorem vA(n:Nat)(c:AR)(h40:∀l∈c.beach.winds,l.length<=40)(hch:c.chairs.length<=40):A5 cj kn (AE cj ann kn (n+9600)) 41 [.agg (AF c)]=some (.tup [sl ((FZ c).1.map AJ),i (FZ c).2]):=by
 rw[AN rfl,AP Tryz.func41 b41 rfl (by simp[AF,AS,BF,AY])];unfold FZ;by_cases h:B5 c=0
 ·rw[if_neg (by simp[h])];have hc:=E9 h;have hfl:=hc.fl;obtain⟨g',hg,q⟩:=gO c hc [(1,0,.box (AF c))] (fun t _=>eC c 1 0 t) 1 11 [(10,true,.agg (AF c)),(1,true,.ptr 0 1 0 0)];have q:=fun n=>q (n+1596);have hT0:bZ c []:=⟨by simp,by simp,by simp⟩;obtain⟨f',L',c',fr,hL,g6,hf',ql⟩:=ACV c hc 2 g' (c.fams.length+1) 0 [] (NW c 2 g' [] []) (g'+1+1+1) (by omega) (XW hT0) (by omega) (by omega);have ql:=ql (n+1088) (n+9588) (by omega);rw[show n+1088+8500=n+9588 by omega]at ql;have hw:IntKind.i64.wrap ((c.fams.length:Int)+1)=((c.fams.length+1:Nat):Int):=by rw[AW (by omega) (by omega)];rfl
  obtain⟨y,hy⟩:=Option.isSome_iff_exists.1 (yU c);have:=hf' y hy;subst this;rw[hy];obtain⟨T,hT,p910⟩:=hL.w.p0;have p911:=hL.w.p1;have n11:=hL.no 11 (by decide);have n27:=hL.no 27 (by decide);have p1:=hL.p1;have p4:=hL.p4;have p6:=hL.p6;have p7:=hL.p7;generalize ((c.fams.length+1:Nat):Int)=N at *;simp only[AF,CJ,NW,bg,XR]at q ql|-;simp at ql;simp[c41,AD,q,hw,ql,g6,p1,p4,p6,p7,p910,p911,n11]
 ·rw[if_pos h];have q:=Q6 c h40 hch h [(1,0,.box (AF c))] (fun t _=>eC c 1 0 t) 1 11 [(10,true,.agg (AF c)),(1,true,.ptr 0 1 0 0)];have q:=fun n=>q (n+1596);generalize B5 c=E at *;simp only[AF,Nat.add_assoc,bc]at q|-;simp[c41,AD,q,h,XR,show A9 (V.raw (Value.pointer none))=true from rfl,show(A8 (V.raw (Value.pointer none))).length=1 from rfl]
def VC(p:Nat->Bool):Nat->Nat->Bool
 |0,_=>false
 |e+1,j=>p j||VC p e (j+1)
theorem YR(p:Nat->Bool):∀e j,VC p e j=(bp e).any fun k=>p (j+k)
 |0,_=>rfl
 |e+1,j=>by rw[List.range_succ_eq_map,List.any_cons,List.any_map];simp only[VC,YR p e (j+1),Nat.add_zero];congr 2;funext k;show p (j+1+k)=p (j+(k+1));congr 1;omega
def Q7(c:AR)(k n:Nat):List (Nat×Int):=AV c [(k:Int)]++[(k,(n:Int)+1),(k,(CK c k).size-((n:Int)+1))]
@[simp] theorem AVV:H0 cj 92=true:=by kernel_rfl
theorem AI5(n:Nat)(c:AR)(hl:c.fams.length<=30)(out:List Int)(ho:out.length<=40):H1 cj (AE cj ann kn (n+2000)) 92 [.agg (AF c),li out]=some ⟨.vec 151 ((AV c out).map BL),none⟩:=by
 rw[WD Tryz.func92 b92 rfl (by simp[AF,AS,BF,AY])];obtain⟨c',γ',q⟩:=AI3 c.fams hl out ho (.box (AF c)) c.fams.length 0 1 0 (by omega);have q:=fun n m=>q n (m+100) (by omega);have e:CV c.fams out c.fams.length=AV c out:=rfl;rw[e,show CV c.fams out 0=[] from rfl]at q;generalize hG:AV c out=G at *;have hcl:(G.map BL).all (fun e=>e.all (AG 9))=true:=by simp[BL]
 generalize G.map BL=R at *;simp only[AF,bg]at q|-;simp at q;simp[c92,AD,q,YC];cases R with
 |nil=>exact oU (R:=170) (T:=151) (by kernel_rfl) (by simp) _ _ _ 25 γ' [] rfl rfl
 |cons x xs=>exact oU (P:=cj) (R:=170) (T:=151) (by kernel_rfl) (by simp) _ _ _ 25 γ' (x::xs) (by simp) hcl
theorem gR{c:AR}{k:Nat}(hk:k<c.fams.length):CK c k∈c.fams:=by simp[CK,bb hk]
theorem lPt(c:AR)(hc:B7 c){γ:Nat}{B:AA}(k:Nat)(hk:k<c.fams.length)(rs:List AA)(hst:ED rs) :
  ∀(e j:Nat) (L D:AA) (cc:Nat),j+e=((CK c k).size / 2).toNat->Lw c γ B L->γ+1<cc->(D=[]\/∃g,D=[(29,g,.dead)]) ->
  ∃(L' D':AA) (c':Nat) (x:Fr),Lw c γ B L'/\cc<=c' /\
   ∀n m,e<m->BJ (AE cj ann kn (n+7050) 41) ZC (ann 41 (B9 ZC)) m ⟨cc,[(0,true,.ptr 0 911 (γ+1) 0),(1,true,i k),(5,true,i (CK c k).size),(6,true,i ((j:Int)+1))],⟨L::rs,D⟩⟩ =
    if VC (fun n=>J3 c (AU c) (Q7 c k n)) e j=true then some (.ret,⟨c',[(4,true,.bool true)],⟨L'::rs,[]⟩⟩)
    else some (.exit 0,⟨c',x,⟨L'::rs,D'⟩⟩)
 |0,j,L,D,cc,he,hL,hcc,hD=>by
  have hfs:=(hc.fo _ (gR hk)).1;generalize (CK c k).size=z at *;have hnot:¬((j:Int)+1<=z / 2):=by omega
  have w0:IntKind.i64.wrap (z.tdiv 2)=z / 2:=by rw[Int.tdiv_eq_ediv_of_nonneg (by omega),AW (by omega) (by omega)]
  refine⟨L,D,cc,?_,hL,bf _,fun n m hm=>?_⟩;rotate_left
  ·obtain⟨m,rfl⟩:∃k',m=k'+1:=⟨m-1,by omega⟩;rcases hD with rfl|⟨g,rfl⟩
   ·simp[AB,VC,hnot,w0];rfl
   ·simp[AB,VC,hnot,w0]
 |e+1,j,L,D,cc,he,hL,hcc,hD=>by
  have hfs:=(hc.fo _ (gR hk)).1;have hfl:=hc.fl;have hlt:(j:Int)+1<=(CK c k).size / 2:=by omega
  have hgs:∀x∈Q7 c k j,x.1<c.fams.length/\1<=x.2/\x.2<=4:=fun x hx=>by
   rcases List.mem_append.1 hx with h|h
   ·exact J5 hc _ _ (bf _) x h
   ·simp only[bq,bk,or_false]at h;rcases h with rfl|rfl<;>(refine⟨hk,?_,?_⟩<;>show _<=_<;>simp only<;>omega)
  have hl0:(AV c [(k:Int)]).length<=c.fams.length:=by rw[JO,bz];have:=bm (fun x:Nat=>!decide ((x:Int)∈[(k:Int)])) (bp c.fams.length);simp[J4]at this|-;omega
  have hgl:(Q7 c k j).length<=9:=by simp only[Q7,List.length_append,List.length_cons,List.length_nil];omega
  have hga:(AV c [(k:Int)]).map BL++[[V.int .i64 (k:Int),V.int .i64 ((j:Int)+1)],[V.int .i64 (k:Int),V.int .i64 ((CK c k).size-((j:Int)+1))]]=(Q7 c k j).map BL:=by simp[Q7,BL]
  have hlen:(Q7 c k j).length=(AV c [(k:Int)]).length+2:=by simp[Q7]
  have happ:BV cj 151 (AV c [(k:Int)]).length [[V.int .i64 (k:Int),V.int .i64 ((j:Int)+1)],[V.int .i64 (k:Int),V.int .i64 ((CK c k).size-((j:Int)+1))]]=true:=by rw[BS (by simp) (by simp)];simp[maxLen];omega
  have hcl:∀(t:St) (l:List (Nat×Int)),CG t (.vec 151 (l.map BL))=.vec 151 (l.map BL):=fun t l=>MF fun e he v hv=>by obtain⟨x,_,rfl⟩:=List.mem_map.1 he;simp only[BL,bq,bk,or_false]at hv;rcases hv with rfl|rfl<;>rfl
  generalize hgp:Q7 c k j=gp at *;obtain⟨loc,hloc⟩:∃loc:AA,loc=(29,cc+1,AX.dead)::(29,cc+1,.vec 151 (gp.map BL))::(29,cc,.vec 151 ((AV c [(k:Int)]).map BL))::D:=⟨_,rfl⟩;have hst2:ED (rs++[loc]):=E5 hst fun t _=>by rw[hloc];rcases hD with rfl|⟨g,rfl⟩<;>simp[A0,hcl]
  have hsl:sl (gp.map BL)=.list false (gp.map BL):=by
   cases gp with
   |nil=>simp at hlen
   |cons y ys=>rfl
  obtain⟨L1,c1,r1,r2,r3⟩:=ACR hc hgl hgs (rs++[loc]) hst2 (gl:=.list false (gp.map BL)) (.inl hsl.symm) L hL (cc+1+1) (by omega);have q2:∀n fr,HC (BG cj ann kn (n+6500)) (some 40) ⟨cc+1+1,fr,⟨L::rs,loc⟩⟩ 91 [.ptr 0 911 (γ+1) 0,.list false (gp.map BL)]=some ⟨c1,(40,true,.bool (J3 c (AU c) gp))::fr,⟨L1::rs,loc⟩⟩:=fun n fr=>by rw[A3 cq b91 rfl (by simp),bj];refine(r3 n 40 fr).trans ?_;rw[<-bj,unsnoc_snoc];rfl
  simp only[hloc]at q2;have hti:=fun fr h=>fZ (t:=39) (c:=cc+1+1) (l:=rs.length+1) (q:=29) (γ:=cc+1) (n:=(AV c [(k:Int)]).length+2) (fr:=fr) (s:=⟨L::rs,(29,cc+1,.vec 151 (gp.map BL))::(29,cc,.vec 151 ((AV c [(k:Int)]).map BL))::D⟩) (U:=151) (es:=gp.map BL) h (by simp) (by simp;omega) (by omega);have hal:(((AV c [(k:Int)]).map BL).all fun y=>y.length==cj.cellsOf 151)=true:=by
   have e:cj.cellsOf 151=2:=by kernel_rfl
   simp[e,BL]
  have hcd:=(⟨rfl,rfl,(bz _).symm,hal,by rw[bz];exact happ⟩:cc=cc/\151=151/\(AV c [(k:Int)]).length=((AV c [(k:Int)]).map BL).length/\_/\BV cj 151 ((AV c [(k:Int)]).map BL).length _=true);have htk:(gp.map BL).take ((AV c [(k:Int)]).length+2)=gp.map BL:=bh (by simp;omega);have qG:=fun n=>AI5 n c (by omega) [(k:Int)] (by simp);have p1:=hL.p1;simp only[CJ,AF,li,List.map_cons,bg,AJ]at p1 qG;have hclB:c.chairs.all ((fun e=>e.all (AG 7))∘AS)=true:=bw.2 fun x _=>by simp[AS,BF]
  have hclF:c.fams.all ((fun e=>e.all (AG 7))∘AY)=true:=bw.2 fun x _=>by simp[AY]
  have hcG:∀f:Nat,AG (f+3) (sl ((AV c [(k:Int)]).map BL))=true:=fun f=>by cases AV c [(k:Int)]<;>simp[sl,BL]
  have hwG:weakV (sl ((AV c [(k:Int)]).map BL))=sl ((AV c [(k:Int)]).map BL):=by cases AV c [(k:Int)]<;>simp[sl]
  have w0:IntKind.i64.wrap ((CK c k).size.tdiv 2)=(CK c k).size / 2:=by rw[Int.tdiv_eq_ediv_of_nonneg (by omega),AW (by omega) (by omega)]
  have w1:IntKind.i64.wrap ((CK c k).size-((j:Int)+1))=(CK c k).size-((j:Int)+1):=AW (by omega) (by omega);have w2:IntKind.i64.wrap ((j:Int)+1+1)=(j:Int)+1+1:=AW (by omega) (by omega);cases hz:J3 c (AU c) gp with
  |true=>
   rw[hz]at q2
   have hy:VC (fun n=>J3 c (AU c) (Q7 c k n)) (e+1) j=true:=by simp only[VC,hgp,hz,Bool.true_or]
   refine⟨L1,[],c1,[],r1,by omega,fun n m hm=>?_⟩
   obtain⟨m,rfl⟩:∃k',m=k'+1:=⟨m-1,by omega⟩
   rw[AB,if_pos hy]
   rcases hD with rfl|⟨g,rfl⟩
   ·simp[p1,hlt,w0,w1,qG,q2,hga,hti,htk,hcG,hwG,hclB,hclF,CE,DV,CH,pX,JF,IV];rw[if_pos hcd];done
   ·simp[p1,hlt,w0,w1,qG,q2,hga,hti,htk,hcG,hwG,hclB,hclF,CE,DV,CH,pX,JF,IV];rw[if_pos hcd];done
  |false=>
   rw[hz]at q2
   have hy:VC (fun n=>J3 c (AU c) (Q7 c k n)) (e+1) j=VC (fun n=>J3 c (AU c) (Q7 c k n)) e (j+1):=by simp only[VC,hgp,hz,Bool.false_or]
   obtain⟨L2,D2,c2,x2,hL2,hc2,ih⟩:=lPt c hc k hk rs hst e (j+1) L1 [(29,cc+1,.dead)] c1 (by omega) r1 (by omega) (.inr ⟨_,rfl⟩)
   rw[hy]
   refine⟨L2,D2,c2,x2,hL2,by omega,fun n m hm=>?_⟩
   obtain⟨m,rfl⟩:∃k',m=k'+1:=⟨m-1,by omega⟩
   have ih:=ih n m (by omega)
   rw[AB]
   rcases hD with rfl|⟨g,rfl⟩
   ·simp[p1,hlt,w0,w1,w2,qG,q2,hga,hti,htk,hcG,hwG,hclB,hclF,CE,DV,CH,pX,JF,IV];rw[if_pos hcd];simp at ih;simp[ih];done
   ·simp[p1,hlt,w0,w1,w2,qG,q2,hga,hti,htk,hcG,hwG,hclB,hclF,CE,DV,CH,pX,JF,IV];rw[if_pos hcd];simp at ih;simp[ih];done
theorem AI6{c:AR}(hc:B7 c){γ:Nat}{B:AA}(k:Nat)(hk:k<c.fams.length)(rs:List AA)(hst:ED rs)(L:AA)(hL:Lw c γ B L)(cc:Nat)(hcc:γ+1<cc):∃L' c',Lw c γ B L'/\cc<=c' /\
  ∀n dd fr,XT cj (some dd) fr Tryz.f94.results.toList (AE cj ann kn (n+7100) 41 c94 ⟨cc,AD 0 [.ptr 0 911 (γ+1) 0,i k],⟨L::rs,[]⟩⟩)=RV (some dd) fr c' (.bool (FI c k)) (B8 (L'::rs)):=by
 obtain⟨L',D',c',x,h1,h2,h3⟩:=lPt c hc k hk rs hst ((CK c k).size / 2).toNat 0 L [] cc (by omega) hL hcc (.inl rfl)
 have e:FI c k=VC (fun n=>J3 c (AU c) (Q7 c k n)) ((CK c k).size / 2).toNat 0:=by rw[YR];unfold FI Q7;simp only[Nat.zero_add]
 rw[e]
 refine⟨L',c',h1,h2,fun n dd fr=>?_⟩
 have h3:=h3 (n+44) (n+7094) (by have:=(hc.fo _ (gR hk)).1;omega)
 rw[show n+44+7050=n+7094 by omega]at h3
 have p1:=hL.p1
 have sL:=h1.st
 have sR1:∀(A lo:AA),rs.map (AH ⟨A::rs,lo⟩)=rs:=fun A lo=>hst _ (by simp)
 have hfk:c.fams[k]'hk=CK c k:=by simp[CK,bb hk]
 simp only[CJ,AF]at p1
 cases hz:VC (fun n=>J3 c (AU c) (Q7 c k n)) ((CK c k).size / 2).toNat 0 with
 |true=>
  rw[if_pos hz]at h3
  simp at h3
  simp[c94,AD,p1,hfk,hk,AY,h3,sL,sR1]
 |false=>
  rw[if_neg (by rw[hz];decide)]at h3
  simp at h3
  simp[c94,AD,p1,hfk,hk,AY,h3,sL,sR1]
def ptL(c:AR):Nat->Nat->List Int
 |0,_=>[]
 |e+1,j=>(if FI c j=true then[(j:Int)] else[])++ptL c e (j+1)
theorem ACX(c:AR):∀e j,ptL c e j=((List.range' j e).filter (FI c)).map fun (k:Nat)=>(k:Int)
 |0,_=>rfl
 |e+1,j=>by rw[List.range'_succ,List.filter_cons,ptL,ACX c e (j+1)];split<;>simp
structure yV(c:AR)(γ γp:Nat)(out:List Int)(L:AA):Prop where
 w:Lw c γ L L
 p1:L.get 1=some (0,.box (AF c))
 p35:L.get 35=(pl 35 γp 3 (out.map AJ)).get 35
 no:∀k,¬k∈[1,35,910,911]->L.get k=none
theorem yV.next{c:AR}{γ γp:Nat}{out:List Int}{L L':AA}(h:yV c γ γp out L)(h':Lw c γ L L'):yV c γ γp out L' where
 w:=⟨h'.p0,h'.p1,h'.st,fun _ _=>rfl⟩
 p1:=(h'.ot 1 (by decide)).trans h.p1
 p35:=(h'.ot 35 (by decide)).trans h.p35
 no:=fun k hk=>(h'.ot k fun e=>hk (by simp[e])).trans (h.no k hk)
def MN(c:AR)(γ γp:Nat)(out:List Int)(T:List (Sp×B0)):AA:=(1,0,.box (AF c))::(pl 35 γp 3 (out.map AJ)++[(910,γ,.map (T.map HB)),(911,γ+1,.box (CJ c γ))])
theorem R9{c:AR}{γ γp:Nat}{out:List Int}{T:List (Sp×B0)}(hT:bZ c T):yV c γ γp out (MN c γ γp out T) where
 w:=⟨⟨T,hT,by cases out <;> simp[MN]⟩,by cases out <;> simp[MN],fun t ht=>by
  have e0:¬0=t.up.length:=by omega
  have hcE:∀l∈AU c,encA l=l.map fun x=>i x:=fun _ _=>rfl;have hs:=jK t T;obtain⟨up,lo⟩:=t;simp only at e0;have hv:=LY ⟨up,lo⟩ 3 out;cases out <;> (simp[AJ]at hv; simp[MN,CJ,AF,AJ,hs,hv]),fun _ _=>rfl⟩
 p1:=by simp[MN]
 p35:=by cases out<;>simp[MN]
 no:=fun k hk=>by simp only[bq,bk,or_false,not_or]at hk;cases out<;>simp[MN,hk.1,hk.2.1,hk.2.2.1,hk.2.2.2]
theorem lPa(c:AR)(hc:B7 c)(γ:Nat):∀(d k:Nat) (out:List Int) (L:AA) (γp cc:Nat),k+d=c.fams.length->out.length<=k->yV c γ γp out L->γ+1<cc->γp<cc ->
  ∃(γ' c':Nat) (L':AA) (fr:Fr),yV c γ γ' (out++ptL c d k) L'/\BD fr 6=some (true,pv 35 γ' ((out++ptL c d k).map AJ))/\∀n m,d<m ->
   BJ (AE cj ann kn (n+7500) 38) ZD (ann 38 (B9 ZD)) m ⟨cc,[(4,true,.ptr 0 911 (γ+1) 0),(6,true,pv 35 γp (out.map AJ)),(25,true,i c.fams.length),(26,true,i k)],⟨[],L⟩⟩ =
    some (.exit 0,⟨c',fr,⟨[],L'⟩⟩)
 |0,k,out,L,γp,cc,hd,ho,hL,hcc,hcp=>by
  have hnot:¬((k:Int)<(c.fams.length:Int)):=by omega
  obtain⟨T,hT,p910⟩:=hL.w.p0;have p911:=hL.w.p1;have p1:=hL.p1;have p35:=hL.p35;have n10:=hL.no 10 (by decide);have n21:=hL.no 21 (by decide);refine⟨γp,cc,MN c γ γp out T,[(27,true,.bool false),(4,true,.ptr 0 911 (γ+1) 0),(6,true,pv 35 γp (out.map AJ)),(25,true,i c.fams.length),(26,true,i k)],by rw[ptL,List.append_nil];exact R9 hT,?g1,fun n m hm=>?g⟩;case g=>
   obtain⟨m,rfl⟩:∃k',m=k'+1:=⟨m-1,by omega⟩
   cases out<;>simp[AB,MN,hnot,p1,p35,p910,p911,n10,n21]
  case g1=>simp[ptL]
 |d+1,k,out,L,γp,cc,hd,ho,hL,hcc,hcp=>by
  have hfl:=hc.fl;have hk:k<c.fams.length:=by omega
  have hlt:(k:Int)<(c.fams.length:Int):=by omega
  have hw:=BW (k:=k) (by omega);obtain⟨T,hT,o910⟩:=hL.w.p0;have o911:=hL.w.p1;have o1:=hL.p1;have o35:=hL.p35;have m10:=hL.no 10 (by decide);have m21:=hL.no 21 (by decide);have hA:=R9 (c:=c) (γ:=γ) (γp:=γp) (out:=out) hT;obtain⟨L1,c1,r1,r2,r3⟩:=AI6 hc k hk [] (fun _ _=>rfl) (MN c γ γp out T) hA.w cc hcc;have hB:=hA.next r1;obtain⟨T1,hT1,p910⟩:=hB.w.p0;have p911:=hB.w.p1;have p1:=hB.p1;have p35:=hB.p35;have n10:=hB.no 10 (by decide);have n21:=hB.no 21 (by decide);have q2:∀n fr,HC (BG cj ann kn (n+7100)) (some 31) ⟨cc,fr,⟨[],MN c γ γp out T⟩⟩ 94 [.ptr 0 911 (γ+1) 0,i k]=some ⟨c1,(31,true,.bool (FI c k))::fr,⟨[],L1⟩⟩:=fun n fr=>by rw[A3 Tryz.func94 b94 rfl (by simp)];exact r3 n 31 fr
  have happ:BV cj 3 out.length [[.int .i64 k]]=true:=by rw[BS (by simp) (by simp)];simp[maxLen];omega
  have hpt:ptL c (d+1) k=(if FI c k=true then[(k:Int)] else[])++ptL c d (k+1):=rfl;rw[hpt];cases hz:FI c k with
  |true=>
   rw[hz]at q2
   obtain⟨γ',c',L',fr,h1,h2,h3⟩:=lPa c hc γ d (k+1) (out++[(k:Int)]) (MN c γ c1 (out++[(k:Int)]) T1) c1 (c1+1) (by omega) (by simp;omega) (R9 hT1) (by omega) (by omega)
   rw[if_pos rfl,<-List.append_assoc]
   refine⟨γ',c',L',fr,h1,h2,fun n m hm=>?_⟩
   obtain⟨m,rfl⟩:∃k',m=k'+1:=⟨m-1,by omega⟩
   have h3:=h3 n m (by omega)
   rw[AB]
   cases out with
   |nil=>
    simp[MN,AJ,pv]at h3 q2 happ
    simp[hlt,hw,happ,o1,o35,o910,o911,m10,m21,q2,p1,p35,p910,p911,n10,n21,h3]
   |cons a r=>
    simp[MN,AJ]at h3 q2 happ
    simp[hlt,hw,AJ,happ,o1,o35,o910,o911,m10,m21,q2,p1,p35,p910,p911,n10,n21,h3]
  |false=>
   rw[hz]at q2
   obtain⟨γ',c',L',fr,h1,h2,h3⟩:=lPa c hc γ d (k+1) out (MN c γ γp out T1) γp c1 (by omega) (by omega) (R9 hT1) (by omega) (by omega)
   rw[if_neg (by decide),bn]
   refine⟨γ',c',L',fr,h1,h2,fun n m hm=>?_⟩
   obtain⟨m,rfl⟩:∃k',m=k'+1:=⟨m-1,by omega⟩
   have h3:=h3 n m (by omega)
   rw[AB]
   cases out with
   |nil=>
    simp[MN]at h3 q2 happ
    simp[hlt,hw,o1,o35,o910,o911,m10,m21,q2,p1,p35,p910,p911,n10,n21,h3]
   |cons a r=>
    simp[MN,AJ]at h3 q2 happ
    simp[hlt,hw,AJ,o1,o35,o910,o911,m10,m21,q2,p1,p35,p910,p911,n10,n21,h3]
theorem ACY(n:Nat)(c:AR)(h40:∀l∈c.beach.winds,l.length<=40)(hch:c.chairs.length<=40):A5 cj kn (AE cj ann kn (n+9600)) 42 [.agg (AF c)]=some (.tup [sl ((JD c).1.map AJ),i (JD c).2]):=by
 rw[AN rfl,AP Tryz.func42 b42 rfl (by simp[AF,AS,BF,AY])];unfold JD;by_cases h:B5 c=0
 ·rw[if_neg (by simp[h])];have hc:=E9 h;have hfl:=hc.fl;obtain⟨g',hg,q⟩:=gO c hc [(1,0,.box (AF c))] (fun t _=>eC c 1 0 t) 1 10 [(9,true,.agg (AF c)),(1,true,.ptr 0 1 0 0)];have q:=fun n=>q (n+1596);have hT0:bZ c []:=⟨by simp,by simp,by simp⟩;have hgs:∀x∈AV c [],x.1<c.fams.length/\1<=x.2/\x.2<=4:=fun x hx=>J5 hc [] _ (bf _) x hx;have hgl:(AV c []).length<=9:=by rw[N9];omega
  obtain⟨L1,c1,r1,r2,r3⟩:=ACR hc hgl hgs [] (fun _ _=>rfl) (.inl rfl) (uZ c 1 2) (ACT c 1 2 (by omega)) g' (by omega);have hcb:=fun n fr=>(A3 (A:=ann) (kn:=kn) (n:=n+6500) cq b91 rfl (args:=[.ptr 0 911 (2+1) 0,sl ((AV c []).map BL)]) (by simp) (some 22) g' fr [] (uZ c 1 2)).trans (r3 n 22 fr);have qG:=fun n=>gP n c (by omega) [] (by simp);have hwG:weakV (sl ((AV c []).map BL))=sl ((AV c []).map BL):=by cases AV c []<;>simp[sl]
  have hca:FP c []=J3 c (AU c) (AV c []):=rfl;rw[hca];obtain⟨T1,hT1,p910⟩:=r1.p0;have p911:=r1.p1;have p1:L1.get 1=some (0,.box (AF c)):=r1.ot 1 (by decide);have hno:∀k,¬k∈[1,910,911]->L1.get k=none:=fun k hk=>(r1.ot k fun e=>hk (by simp[e])).trans (by
   simp only[bq,bk,or_false,not_or]at hk;simp[uZ,hk.1,hk.2.1,hk.2.2])
  have n10:=hno 10 (by decide);have n21:=hno 21 (by decide);have n35:=hno 35 (by decide);generalize sl ((AV c []).map BL)=gl at *;cases hz:J3 c (AU c) (AV c [])with
  |true=>
   rw[hz]at hcb
   simp only[AF,CJ,uZ,li,bg,bc]at q qG hcb p1 p911|-
   simp at hcb
   simp[c42,AD,AS,BF,AY,q,qG,hcb,hwG,XR]
  |false=>
   rw[hz]at hcb
   obtain⟨γ',c',L',fr,h1,h2,h3⟩:=lPa c hc 2 c.fams.length 0 [] (MN c 2 0 [] T1) 0 c1 (by omega) (by simp) (R9 hT1) (by omega) (by omega)
   rw[bn]at h1 h2
   have e:ptL c c.fams.length 0=((bp c.fams.length).filter (FI c)).map fun (k:Nat)=>(k:Int):=by rw[ACX,<-List.range_eq_range']
   rw[<-e]
   have h3:=h3 (n+2091) (n+9591) (by omega)
   rw[show n+2091+7500=n+9591 by omega]at h3
   obtain⟨T2,hT2,y910⟩:=h1.w.p0
   have y911:=h1.w.p1
   have y1:=h1.p1
   have y35:=h1.p35
   generalize ptL c c.fams.length 0=R at *
   have hcR:∀f:Nat,AG (f+3) (sl (R.map AJ))=true:=fun f=>by cases R<;>simp[sl,AJ]
   simp only[AF,CJ,uZ,MN,li,bg,bc]at q qG hcb p1 p911 h3|-
   simp at hcb h3
   simp[c42,AD,AS,BF,AY,q,qG,hcb,hwG,p1,p910,p911,n10,n21,h3,h2,y35,hcR]
 ·rw[if_pos h];have q:=Q6 c h40 hch h [(1,0,.box (AF c))] (fun t _=>eC c 1 0 t) 1 10 [(9,true,.agg (AF c)),(1,true,.ptr 0 1 0 0)];have q:=fun n=>q (n+1596);generalize B5 c=E at *;simp only[AF,Nat.add_assoc,bc]at q|-;simp[c42,AD,q,h,XR]
end Go.Proofs.Tryz.Op
