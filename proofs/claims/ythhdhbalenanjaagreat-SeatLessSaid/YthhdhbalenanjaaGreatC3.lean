/- The search of Leave: sets of a size, one after another. No condition but a valid case. -/
import Derived.Test.YthhdhbalenanjaaGreatC2
open Go.Proofs.Tryz renaming prog->bk,f90->bq
open List renaming cons_append->bj
set_option maxRecDepth 100000
set_option linter.unusedSimpArgs false
open Go Go.Pg Go.Proofs Go.Wind
namespace Go.Proofs.Tryz.Op
@[simp] theorem A0C:GL bk 93=true:=by kernel_rfl
theorem BBN:GS bk .eql 22 .nil .nil=some (.bool true):=by kernel_rfl
theorem A0D(e:List V)(es:List (List V)):GS bk .eql 22 (.list false (e::es)) .nil=some (.bool false):=by
 have h:D0 bk 22=true:=by kernel_rfl
 show(if D0 bk 22=true then(I2 (.list false (e::es))).map V.bool else none)=_;rw[if_pos h];rfl
theorem APC(n:Nat)(xs:List Int)(hl:xs.length<=90):H8 bk (AF bk ann kn (n+100)) 93 [sl (xs.map AH)]=some ⟨.vec 3 (xs.map AH),none⟩:=by
 rw[zU Tryz.func93 b93 rfl (by simp[AH])];cases xs with
 |nil=>
  simp[c93,AD,vU,sl,BBN]
  exact ANN (R:=22) (T:=3) (by kernel_rfl) (by simp) _ _ _ 0 0 [] rfl rfl
 |cons x xs=>
  have ha:BZ bk 3 0 ((x::xs).map AH)=true:=by rw[CC (by simp) (by simp)];simp[maxLen,AH]at hl|-;omega
  simp only[sl,List.map_cons]at ha|-
  simp[c93,AD,vU,ha,A0D]
  rw[show xs.length+1=(AH x::xs.map AH).length by simp]
  exact ANN (P:=bk) (R:=22) (T:=3) (by kernel_rfl) (by simp) _ _ _ 7 0 (AH x::xs.map AH) (by simp) (by simp[AH])
theorem Lw.self{c:AU}{γ:Nat}{B L:AA}(h:Lw c γ B L):Lw c γ L L:=⟨h.p0,h.p1,h.st,fun _ _=>rfl⟩
structure UR(c:AU)(γ g:Nat)(f:List Int)(L:AA):Prop where
 w:Lw c γ L L
 p1:L.get 1=some (0,.box (AE c))
 p4:L.get 4=some (g,.box [.ptr 0 911 (γ+1) 0])
 p6:L.get 6=some (g+1,.box [sl (f.map AH)])
 p7:L.get 7=some (g+1+1,.box [.fn 90 [] [.ptr 0 6 (g+1) 0,.ptr 0 4 g 0,.ptr 0 1 0 0,.ptr 0 7 (g+1+1) 0]])
 no:∀k,¬k∈[1,4,6,7,910,911]->L.get k=none
theorem UR.next{c:AU}{γ g:Nat}{f:List Int}{L L':AA}(h:UR c γ g f L)(h':Lw c γ L L'):UR c γ g f L' where
 w:=h'.self
 p1:=(h'.ot 1 (by decide)).trans h.p1
 p4:=(h'.ot 4 (by decide)).trans h.p4
 p6:=(h'.ot 6 (by decide)).trans h.p6
 p7:=(h'.ot 7 (by decide)).trans h.p7
 no:=fun k hk=>(h'.ot k fun e=>hk (by simp[e])).trans (h.no k hk)
theorem UR.put{c:AU}{γ g:Nat}{f:List Int}{L:AA}(h:UR c γ g f L)(out:List Int):UR c γ g out ((6,g+1,.box [sl (out.map AH)])::L) where
 w:=⟨by obtain⟨T,h1,h2⟩:=h.w.p0;exact⟨T,h1,by simpa using h2⟩,by simpa using h.w.p1,fun t ht=>by simp[h.w.st t ht],fun _ _=>rfl⟩
 p1:=by simpa using h.p1
 p4:=by simpa using h.p4
 p6:=by simp
 p7:=by simpa using h.p7
 no:=fun k hk=>by have:¬k=6:=fun e=>hk (by simp[e]);rw[<-h.no k hk];simp[this]
def ABU(c:AU)(γ g M m:Nat):Prop:=∀(rs:List AA) (f:List Int) (L:AA) (out:List Int) (fr0 cc:Nat),UR c γ g f L->E0 rs->γ+1<cc->g+1+1<cc->out.length+m<=c.fams.length->fr0<=c.fams.length ->
 ∃L' f' c',UR c γ g f' L'/\cc<=c'/\(∀x,D6 (FV c) c.fams.length m fr0 out=some x->f'=x) /\
  ∀(n dd:Nat) (fr:Fr),bT bk (some dd) fr bq.results.toList (AF bk ann kn (n+M) bq.ntmps c90 ⟨cc,AD 0 [sl (out.map AH),i fr0,i m,.ptr 0 6 (g+1) 0,.ptr 0 4 g 0,.ptr 0 1 0 0,.ptr 0 7 (g+1+1) 0],⟨L::rs,[]⟩⟩) =
   UG (some dd) fr c' (.bool (D6 (FV c) c.fams.length m fr0 out).isSome) (B5 (L'::rs))
theorem BBO(c:AU)(hc:CW c)(γ g:Nat):ABU c γ g 7000 0:=by
 intro rs f L out fr0 cc hL hst hcc hcg ho hfr;have hfl:=hc.fl;have hP:=hL.put out;have hgs:∀x∈BG c out,x.1<c.fams.length/\1<=x.2/\x.2<=4:=fun x hx=>Q5 hc out _ (Nat.le_refl _) x hx;have hgl:(BG c out).length<=9:=by rw[J1,List.length_map];have:=List.length_filter_le (fun k:Nat=>!decide ((k:Int)∈out)) (List.range c.fams.length);simp[V8]at this|-;omega
 have hgr:cE (rs++[[]]) (BG c out) (sl ((BG c out).map CN)):=.inl rfl;have hst2:E0 (rs++[[]]):=FY hst fun t _=>rfl;obtain⟨L',c',r1,r2,r3⟩:=AZ6 hc hgl hgs (rs++[[]]) hst2 hgr _ hP.w cc (by omega);have hz:(D6 (FV c) c.fams.length 0 fr0 out).isSome=W5 c (AV c) (BG c out):=by show(if FV c out=true then some out else none).isSome=_;unfold FV;cases W5 c (AV c) (BG c out)<;>rfl
 refine⟨L',out,c',hP.next r1,r2,fun x hx=>?_,fun n dd fr=>?_⟩
 ·unfold D6 at hx;split at hx
  ·cases hx;rfl
  ·cases hx
 ·rw[hz];have qG:=fun n=>tP n c (by omega) out (by omega);have q2:∀n fr,HQ (BL bk ann kn (n+6500)) (some 22) ⟨cc,fr,⟨((6,g+1,.box [sl (out.map AH)])::L)::rs,[]⟩⟩ 91 [.ptr 0 911 (γ+1) 0,sl ((BG c out).map CN)]=some ⟨c',(22,true,.bool (W5 c (AV c) (BG c out)))::fr,⟨L'::rs,[]⟩⟩:=fun n fr=>by rw[A5 Tryz.func91 b91 rfl (by simp),bj];refine(r3 n 22 fr).trans ?_;rw[<-bj,unsnoc_snoc];rfl
  generalize W5 c (AV c) (BG c out)=z at q2|-;have p1:=hL.w.p1;have p4:=hL.p4;have p6:=hL.p6;have sL:=r1.st;have hg1:g+1<cc:=by omega
  simp only[show bq.ntmps=44 from rfl];have hclB:c.chairs.all ((fun e=>e.all (AG 7))∘AO)=true:=List.all_eq_true.2 fun x _=>by simp[AO,AZ]
  have hclF:c.fams.all ((fun e=>e.all (AG 7))∘AP)=true:=List.all_eq_true.2 fun x _=>by simp[AP]
  have hcG:∀f:Nat,AG (f+3) (sl ((BG c out).map CN))=true:=fun f=>by cases BG c out<;>simp[sl,CN]
  have hwG:weakV (sl ((BG c out).map CN))=sl ((BG c out).map CN):=by cases BG c out<;>simp[sl]
  generalize sl ((BG c out).map CN)=gl at *;simp only[DH,AE]at p1 qG;have sR1:∀(A lo:AA),rs.map (AJ ⟨A::rs,lo⟩)=rs:=fun A lo=>hst _ (by simp);simp[c90,AD,p1,p4,p6,qG,q2,hg1,hcG,hwG,hclB,hclF,AA.put,BH,BJ,A0,DJ,AW,sL,sR1]
theorem lLe(c:AU)(hc:CW c)(γ g W m:Nat)(hrec:ABU c γ g (W+7000) m)(rs:List AA)(hst:E0 rs)(out:List Int)(ho:out.length+(m+1)<=c.fams.length) :
  ∀(e j:Nat) (f:List Int) (L D:AA) (cc:Nat),c.fams.length-m-j=e->j<=c.fams.length->UR c γ g f L->γ+1<cc->g+1+1<cc->(D=[]\/∃g,D=[(35,g,.dead)]) ->
  ∃(L' D':AA) (f':List Int) (c':Nat) (x:Fr),UR c γ g f' L'/\cc<=c'/\(∀y,DA (fun j=>D6 (FV c) c.fams.length m (j+1) (out++[(j:Int)])) e j=some y->f'=y) /\
   ∀n k,e<k->BT (AF bk ann kn (n+W+7050) 44) YS (ann 44 (CA YS)) k ⟨cc,[(0,true,sl (out.map AH)),(2,true,i ((m+1:Nat):Int)),(5,true,.ptr 0 1 0 0),(6,true,.ptr 0 7 (g+1+1) 0),(11,true,i j)],⟨L::rs,D⟩⟩ =
    match DA (fun j=>D6 (FV c) c.fams.length m (j+1) (out++[(j:Int)])) e j with
    |some _=>some (.ret,⟨c',[(10,true,.bool true)],⟨L'::rs,[]⟩⟩)
    |none=>some (.exit 0,⟨c',x,⟨L'::rs,D'⟩⟩)
 |0,j,f,L,D,cc,he,hj,hL,hcc,hcg,hD=>by
  have hl:=hc.fl;have p1:=hL.p1;have hw:IntKind.i64.wrap ((c.fams.length:Int)-((m+1:Nat):Int))=(c.fams.length:Int)-((m+1:Nat):Int):=AY (by omega) (by omega);have hnot:¬((j:Int)<=(c.fams.length:Int)-((m+1:Nat):Int)):=by omega
  simp only[AE]at p1;generalize ((m+1:Nat):Int)=mi at *;refine⟨L,D,f,cc,?_,hL,Nat.le_refl _,fun y hy=>(by cases hy),fun n k hk=>?_⟩;rotate_left
  ·obtain⟨k,rfl⟩:∃k',k=k'+1:=⟨k-1,by omega⟩;rcases hD with rfl|⟨g,rfl⟩
   ·simp[AB,DA,p1,hw,hnot];rfl
   ·simp[AB,DA,p1,hw,hnot]
 |e+1,j,f,L,D,cc,he,hj,hL,hcc,hcg,hD=>by
  have hl:=hc.fl;have p1:=hL.p1;have p7:=hL.p7;have hw:IntKind.i64.wrap ((c.fams.length:Int)-((m+1:Nat):Int))=(c.fams.length:Int)-((m+1:Nat):Int):=AY (by omega) (by omega);have hle:(j:Int)<=(c.fams.length:Int)-((m+1:Nat):Int):=by omega
  have hw1:IntKind.i64.wrap ((j:Int)+1)=(j:Int)+1:=AY (by omega) (by omega);have hw2:IntKind.i64.wrap (((m+1:Nat):Int)-1)=(m:Int):=by rw[AY (by omega) (by omega)];omega
  simp only[AE]at p1;have qC:=fun n=>APC n out (by omega);have happ:BZ bk 3 out.length [[.int .i64 j]]=true:=by rw[CC (by simp) (by simp)];simp[maxLen];omega
  have hga:(out.map AH++[[V.int .i64 (j:Int)]])=(out++[(j:Int)]).map AH:=by simp[AH]
  have hlen:(out++[(j:Int)]).length=out.length+1:=by simp
  generalize hout:out++[(j:Int)]=out' at *;obtain⟨loc,hloc⟩:∃loc:AA,loc=[(35,cc+1,AX.dead),(35,cc+1,.vec 3 (out'.map AH)),(35,cc,.vec 3 (out.map AH))]:=⟨_,rfl⟩;have hcl:∀(t:St) (l:List Int),CG t (.vec 3 (l.map AH))=.vec 3 (l.map AH):=fun t l=>PC fun e he v hv=>by obtain⟨x,_,rfl⟩:=List.mem_map.1 he;simp only[AH,List.mem_cons,List.not_mem_nil,or_false]at hv;rw[hv];rfl
  have hst':E0 (rs++[loc]):=FY hst fun t ht=>by rw[hloc];simp[A4,hcl]
  obtain⟨L1,f1,c1,hL1,hc1,hf1,q⟩:=hrec (rs++[loc]) f L out' (j+1) (cc+1+1) hL hst' (by omega) (by omega) (by omega) (by omega);have q2:∀n fr,HQ (BL bk ann kn (n+W+7045)) (some 43) ⟨cc+1+1,fr,⟨L::rs,loc⟩⟩ 90 [sl (out'.map AH),i ((j+1:Nat):Int),i m,.ptr 0 6 (g+1) 0,.ptr 0 4 g 0,.ptr 0 1 0 0,.ptr 0 7 (g+1+1) 0]=some ⟨c1,(43,true,.bool (D6 (FV c) c.fams.length m (j+1) out').isSome)::fr,⟨L1::rs,loc⟩⟩:=fun n fr=>by have q:=q (n+45) 43 fr;rw[show n+45+(W+7000)=n+W+7045 by omega]at q;rw[A5 Tryz.func90 b90 rfl (by simp),bj,q,<-bj,unsnoc_snoc];rfl
  have hti:=fun fr h=>zX (t:=38) (c:=cc+1+1) (l:=rs.length+1) (q:=35) (γ:=cc+1) (n:=out.length+1) (fr:=fr) (s:=⟨L::rs,[(35,cc+1,.vec 3 (out'.map AH)),(35,cc,.vec 3 (out.map AH))]⟩) (U:=3) (es:=out'.map AH) h (by simp) (by simp;omega) (by omega);have htk:(out'.map AH).take (out.length+1)=out'.map AH:=List.take_of_length_le (by simp;omega);have hsl:sl (out'.map AH)=.list false (out'.map AH):=by
   cases out' with
   |nil=>simp at hlen
   |cons y ys=>rfl
  rw[hsl]at q2;simp only[hloc]at q2;cases hz:D6 (FV c) c.fams.length m (j+1) out' with
  |some y=>
   rw[hz]at q2
   simp only[Option.isSome_some]at q2
   have hy:DA (fun j=>D6 (FV c) c.fams.length m (j+1) (out++[(j:Int)])) (e+1) j=some y:=by simp only[DA];rw[hout,hz]
   refine⟨L1,[],f1,c1,[],hL1,by omega,fun y' hy'=>?_,fun n k hk=>?_⟩
   ·rw[hy]at hy';cases hy';exact hf1 _ hz
   ·obtain⟨k,rfl⟩:∃k',k=k'+1:=⟨k-1,by omega⟩;rw[AB,hy];generalize ((m+1:Nat):Int)=mi at *;simp at q2;rcases hD with rfl|⟨g,rfl⟩
    ·simp[p1,p7,hw,hle,hw1,hw2,qC,happ,DJ,FE,AH,hga,hti,htk,q2];done
    ·simp[p1,p7,hw,hle,hw1,hw2,qC,happ,DJ,FE,AH,hga,hti,htk,q2];done
  |none=>
   rw[hz]at q2
   simp only[Option.isSome_none]at q2
   have hy:DA (fun j=>D6 (FV c) c.fams.length m (j+1) (out++[(j:Int)])) (e+1) j=DA (fun j=>D6 (FV c) c.fams.length m (j+1) (out++[(j:Int)])) e (j+1):=by simp only[DA];rw[hout,hz]
   obtain⟨L2,D2,f2,c2,x2,hL2,hc2,hf2,ih⟩:=lLe c hc γ g W m hrec rs hst out ho e (j+1) f1 L1 [(35,cc+1,.dead)] c1 (by omega) (by omega) hL1 (by omega) (by omega) (.inr ⟨_,rfl⟩)
   rw[hy]
   refine⟨L2,D2,f2,c2,x2,hL2,by omega,hf2,fun n k hk=>?_⟩
   obtain⟨k,rfl⟩:∃k',k=k'+1:=⟨k-1,by omega⟩
   have ih:=ih n k (by omega)
   rw[AB]
   generalize DA (fun j=>D6 (FV c) c.fams.length m (j+1) (out++[(j:Int)])) e (j+1)=r at ih|-
   generalize ((m+1:Nat):Int)=mi at *
   simp at q2 ih
   rcases hD with rfl|⟨g,rfl⟩
   ·simp[p1,p7,hw,hle,hw1,hw2,qC,happ,DJ,FE,AH,hga,hti,htk,q2,ih];done
   ·simp[p1,p7,hw,hle,hw1,hw2,qC,happ,DJ,FE,AH,hga,hti,htk,q2,ih];done
theorem kLe(c:AU)(hc:CW c)(γ g:Nat):∀m,ABU c γ g (100*m+7000) m
 |0=>BBO c hc γ g
 |m+1=>by
  intro rs f L out fr0 cc hL hst hcc hcg ho hfr;have hl:=hc.fl;obtain⟨L1,D1,f1,c1,x,hL1,hc1,hf1,hlp⟩:=lLe c hc γ g (100*m) m (kLe c hc γ g m) rs hst out ho (c.fams.length-m-fr0) fr0 f L [] cc rfl hfr hL hcc hcg (.inl rfl);have hsr:D6 (FV c) c.fams.length (m+1) fr0 out=DA (fun j=>D6 (FV c) c.fams.length m (j+1) (out++[(j:Int)])) (c.fams.length-m-fr0) fr0:=rfl;rw[hsr];refine⟨L1,f1,c1,hL1,hc1,hf1,fun n dd fr=>?_⟩;have hlp:=hlp (n+44) (n+100*m+7094) (by omega);have hm1:¬(((m+1:Nat):Int)=0):=by omega
  rw[show n+44+100*m+7050=n+100*m+7094 by omega]at hlp;rw[show n+(100*(m+1)+7000)=n+100*m+7100 by omega];simp only[show bq.ntmps=44 from rfl];generalize DA (fun j=>D6 (FV c) c.fams.length m (j+1) (out++[(j:Int)])) (c.fams.length-m-fr0) fr0=r at hlp|-;generalize ((m+1:Nat):Int)=mi at *;have hs1:=hL1.w.st;have sR1:∀(A lo:AA),rs.map (AJ ⟨A::rs,lo⟩)=rs:=fun A lo=>hst _ (by simp);cases r with
  |some y=>
   simp at hlp
   simp[c90,AD,hm1,hlp,hs1,sR1]
   done
  |none=>
   simp at hlp
   simp[c90,AD,hm1,hlp,hs1,sR1]
   done
def NY(c:AU)(γ g:Nat)(f:List Int)(T:List (Sp×BW)):AA:=[(1,0,.box (AE c)),(4,g,.box [.ptr 0 911 (γ+1) 0]),(6,g+1,.box [sl (f.map AH)]),(7,g+1+1,.box [.fn 90 [] [.ptr 0 6 (g+1) 0,.ptr 0 4 g 0,.ptr 0 1 0 0,.ptr 0 7 (g+1+1) 0]]),(910,γ,.map (T.map IA)),(911,γ+1,.box (DH c γ))]
theorem XJ{c:AU}{γ g:Nat}{f:List Int}{T:List (Sp×BW)}(hT:iS c T):UR c γ g f (NY c γ g f T) where
 w:=⟨⟨T,hT,by simp[NY]⟩,by simp[NY],fun t ht=>by
  have e0:¬0=t.up.length:=by omega
  have hcE:∀l∈AV c,encA l=l.map fun x=>i x:=fun _ _=>rfl;have hs:=vQ t T;obtain⟨up,lo⟩:=t;simp only at e0;simp[NY,DH,AE,AH,AM,AL,AO,AZ,AP,encA,e0,hs],fun _ _=>rfl⟩
 p1:=by simp[NY]
 p4:=by simp[NY]
 p6:=by simp[NY]
 p7:=by simp[NY]
 no:=fun k hk=>by simp only[List.mem_cons,List.not_mem_nil,or_false,not_or]at hk;simp[NY,hk.1,hk.2.1,hk.2.2.1,hk.2.2.2.1,hk.2.2.2.2.1,hk.2.2.2.2.2]
theorem ABV(c:AU)(hc:CW c)(γ g:Nat):∀(e j:Nat) (f:List Int) (L:AA) (cc:Nat),j+e=c.fams.length+1->UR c γ g f L->γ+1<cc->g+1+1<cc ->
  ∃(f':List Int) (L':AA) (c':Nat) (fr:Fr),UR c γ g f' L'/\BS fr 6=some (true,.ptr 0 6 (g+1) 0)/\(∀y,DA (fun m=>D6 (FV c) c.fams.length m 0 []) e j=some y->f'=y)/\∀n k,e<k ->
   BT (AF bk ann kn (n+8500) 30) YT (ann 30 (CA YT)) k ⟨cc,[(6,true,.ptr 0 6 (g+1) 0),(7,true,.ptr 0 7 (g+1+1) 0),(21,true,i ((c.fams.length+1:Nat):Int)),(22,true,i j)],⟨[],L⟩⟩ =
    some (.exit 0,⟨c',fr,⟨[],L'⟩⟩)
 |0,j,f,L,cc,hd,hL,hcc,hcg=>by
  have hnot:¬((j:Int)<((c.fams.length+1:Nat):Int)):=by omega
  generalize ((c.fams.length+1:Nat):Int)=N at *;obtain⟨T,hT,p910⟩:=hL.w.p0;have p911:=hL.w.p1;have n11:=hL.no 11 (by decide);have n27:=hL.no 27 (by decide);have p1:=hL.p1;have p4:=hL.p4;have p6:=hL.p6;have p7:=hL.p7;refine⟨f,NY c γ g f T,cc,?fr,XJ hT,?g1,fun y hy=>(by cases hy),fun n k hk=>?g⟩;case g=>
   obtain⟨k,rfl⟩:∃k',k=k'+1:=⟨k-1,by omega⟩
   simp[AB,NY,hnot,p1,p4,p6,p7,p910,p911,n11,n27]
   rfl
  case g1=>simp
 |e+1,j,f,L,cc,hd,hL,hcc,hcg=>by
  have hl:=hc.fl;have hlt:(j:Int)<((c.fams.length+1:Nat):Int):=by omega
  have hw:=CB (k:=j) (by omega);obtain⟨T,hT,o910⟩:=hL.w.p0;have o911:=hL.w.p1;have m11:=hL.no 11 (by decide);have m27:=hL.no 27 (by decide);have o1:=hL.p1;have o4:=hL.p4;have o6:=hL.p6;have o7:=hL.p7;obtain⟨L1,f1,c1,hL1,hc1,hf1,q⟩:=kLe c hc γ g j [] f (NY c γ g f T) [] 0 cc (XJ hT) (fun t _=>rfl) hcc hcg (by simp;omega) (by omega);obtain⟨T1,hT1,p910⟩:=hL1.w.p0;have p911:=hL1.w.p1;have n11:=hL1.no 11 (by decide);have n27:=hL1.no 27 (by decide);have n3:=hL1.no 3 (by decide);have n8:=hL1.no 8 (by decide);have n25:=hL1.no 25 (by decide);have p1:=hL1.p1;have p4:=hL1.p4;have p6:=hL1.p6;have p7:=hL1.p7;have q2:∀n fr,HQ (BL bk ann kn (n+8493)) (some 27) ⟨cc,fr,⟨[],NY c γ g f T⟩⟩ 90 [.nil,i 0,i j,.ptr 0 6 (g+1) 0,.ptr 0 4 g 0,.ptr 0 1 0 0,.ptr 0 7 (g+1+1) 0]=some ⟨c1,(27,true,.bool (D6 (FV c) c.fams.length j 0 []).isSome)::fr,⟨[],L1⟩⟩:=fun n fr=>by have q:=q (n+1493-100*j) 27 fr;rw[show n+1493-100*j+(100*j+7000)=n+8493 by omega]at q;rw[A5 Tryz.func90 b90 rfl (by simp)];have hs:sl (List.map AH [])=.nil:=rfl;rw[hs]at q;simp only[Int.natCast_zero,List.nil_append]at q|-;rw[q];rfl
  cases hz:D6 (FV c) c.fams.length j 0 []with
  |some y=>
   rw[hz]at q2
   have hy:DA (fun m=>D6 (FV c) c.fams.length m 0 []) (e+1) j=some y:=by simp only[DA];rw[hz]
   rw[hy]
   generalize ((c.fams.length+1:Nat):Int)=N at *
   refine⟨f1,L1,c1,?fr2,hL1,?g3,fun y' h=>?g5,fun n k hk=>?g4⟩
   case g5=>
    cases h
    exact hf1 _ hz
   case g4=>
    obtain⟨k,rfl⟩:∃k',k=k'+1:=⟨k-1,by omega⟩
    rw[AB]
    simp only[NY]at q2|-
    simp at q2
    simp[hlt,hw,o1,o4,o6,o7,o910,o911,m11,m27,q2]
    rfl
   case g3=>simp
  |none=>
   rw[hz]at q2
   have hy:DA (fun m=>D6 (FV c) c.fams.length m 0 []) (e+1) j=DA (fun m=>D6 (FV c) c.fams.length m 0 []) e (j+1):=by simp only[DA];rw[hz]
   obtain⟨f2,L2,c2,fr2,hL2,hg2,hf2,ih⟩:=ABV c hc γ g e (j+1) f1 (NY c γ g f1 T1) c1 (by omega) (XJ hT1) (by omega) (by omega)
   rw[hy]
   refine⟨f2,L2,c2,fr2,hL2,hg2,hf2,fun n k hk=>?_⟩
   obtain⟨k,rfl⟩:∃k',k=k'+1:=⟨k-1,by omega⟩
   have ih:=ih n k (by omega)
   generalize ((c.fams.length+1:Nat):Int)=N at *
   rw[AB]
   simp only[NY]at q2 ih|-
   simp at q2 ih
   simp[hlt,hw,o1,o4,o6,o7,o910,o911,m11,m27,p1,p4,p6,p7,p910,p911,n11,n27,n3,n8,n25,q2,ih]
theorem xG(c:AU):(Q0 (FV c) c.fams.length).isSome=true:=by obtain⟨y,h,_⟩:=N9 c;rw[h];rfl
theorem tQ(n:Nat)(c:AU)(h40:∀l∈c.beach.winds,l.length<=40)(hch:c.chairs.length<=40):BA bk kn (AF bk ann kn (n+9600)) 41 [.agg (AE c)]=some (.tup [sl ((XH c).1.map AH),i (XH c).2]):=by
 rw[AR rfl,AS Tryz.func41 b41 rfl (by simp[AE,AH,AM,AL,AO,AZ,AP])];unfold XH;by_cases h:DE c=0
 ·rw[if_neg (by simp[h])];have hc:=HG h;have hfl:=hc.fl;obtain⟨g',hg,q⟩:=tM c hc [(1,0,.box (AE c))] (fun t _=>tN c 1 0 t) 1 11 [(10,true,.agg (AE c)),(1,true,.ptr 0 1 0 0)];have q:=fun n=>q (n+1596);have hT0:iS c []:=⟨by simp,by simp,by simp⟩;obtain⟨f',L',c',fr,hL,g6,hf',ql⟩:=ABV c hc 2 g' (c.fams.length+1) 0 [] (NY c 2 g' [] []) (g'+1+1+1) (by omega) (XJ hT0) (by omega) (by omega);have ql:=ql (n+1088) (n+9588) (by omega);rw[show n+1088+8500=n+9588 by omega]at ql;have hw:IntKind.i64.wrap ((c.fams.length:Int)+1)=((c.fams.length+1:Nat):Int):=by rw[AY (by omega) (by omega)];rfl
  obtain⟨y,hy⟩:=Option.isSome_iff_exists.1 (xG c);have:=hf' y hy;subst this;rw[hy];obtain⟨T,hT,p910⟩:=hL.w.p0;have p911:=hL.w.p1;have n11:=hL.no 11 (by decide);have n27:=hL.no 27 (by decide);have p1:=hL.p1;have p4:=hL.p4;have p6:=hL.p6;have p7:=hL.p7;generalize ((c.fams.length+1:Nat):Int)=N at *;simp only[AE,DH,NY,List.map_nil,iQ]at q ql|-;simp at ql;simp[c41,AD,q,hw,ql,AH,AM,AL,AO,AZ,AP,AW,g6,p1,p4,p6,p7,p910,p911,n11,n27]
 ·rw[if_pos h];have q:=YC c h40 hch h [(1,0,.box (AE c))] (fun t _=>tN c 1 0 t) 1 11 [(10,true,.agg (AE c)),(1,true,.ptr 0 1 0 0)];have q:=fun n=>q (n+1596);generalize DE c=E at *;simp only[AE,Nat.add_assoc,Nat.reduceAdd]at q|-;simp[c41,AD,AO,AZ,AP,q,h,iQ,show BD (V.raw (Value.pointer none))=true from rfl,show(A7 (V.raw (Value.pointer none))).length=1 from rfl]
@[simp] theorem AU6:GL bk 92=true:=by kernel_rfl
structure BIQ(c:AU)(γ γp:Nat)(out:List Int)(L:AA):Prop where
 w:Lw c γ L L
 p1:L.get 1=some (0,.box (AE c))
 p35:L.get 35=(pl 35 γp 3 (out.map AH)).get 35
 no:∀k,¬k∈[1,35,910,911]->L.get k=none
end Go.Proofs.Tryz.Op
