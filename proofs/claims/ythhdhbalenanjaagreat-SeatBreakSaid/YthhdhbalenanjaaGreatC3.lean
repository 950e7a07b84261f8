/- The search of Leave: sets of a size, one after another. No condition but a valid case. -/
import Derived.Test.YthhdhbalenanjaaGreatC2
import Derived.Test.YthhdhbalenanjaaGreatY0
import Derived.Test.YthhdhbalenanjaaGreatA3
open Go.Proofs.Tryz renaming prog->bb,f90->bc
open List renaming length_cons->bj,cons_append->bk,drop_eq_getElem_cons->bq,length->bw,drop_eq_nil_of_le->bx
set_option maxRecDepth 100000
set_option linter.unusedSimpArgs false
open Go Go.Pg Go.Proofs Go.Wind
namespace Go.Proofs.Tryz.Op
@[simp] theorem AX8:JA bb 93=true:=by kernel_rfl
theorem A8Q:HC bb .eql 22 .nil .nil=some (.bool true):=by kernel_rfl
theorem AX9(e:List V)(es:List (List V)):HC bb .eql 22 (.list false (e::es)) .nil=some (.bool false):=by
 have h:C8 bb 22=true:=by kernel_rfl
 show(if C8 bb 22=true then(HB (.list false (e::es))).map V.bool else none)=_;rw[if_pos h];rfl
theorem AOH(n:Nat)(xs:List Int)(hl:xs.length<=90):GO bb (AF bb ann kn (n+100)) 93 [sl (xs.map AM)]=some ⟨.vec 3 (xs.map AM),none⟩:=by
 rw[eW Tryz.func93 b93 rfl (by simp)];cases xs with
 |nil=>
  simp[c93,AD,iL,sl,A8Q]
  exact AFK (R:=22) (T:=3) (by kernel_rfl) (by simp) _ _ _ 0 0 [] rfl rfl
 |cons x xs=>
  have ha:B0 bb 3 0 ((x::xs).map AM)=true:=by rw[CC (by simp) (by simp)];simp[maxLen,AM]at hl|-;omega
  simp only[sl,List.map_cons]at ha|-
  simp[c93,AD,iL,ha,AX9]
  rw[show xs.length+1=(AM x::xs.map AM).length by simp]
  exact AFK (P:=bb) (R:=22) (T:=3) (by kernel_rfl) (by simp) _ _ _ 7 0 (AM x::xs.map AM) (by simp) (by simp[AM])
theorem Lw.self{c:AP}{γ:Nat}{B L:AA}(h:Lw c γ B L):Lw c γ L L:=⟨h.p0,h.p1,h.st,fun _ _=>rfl⟩
structure UM(c:AP)(γ g:Nat)(f:List Int)(L:AA):Prop where
 w:Lw c γ L L
 p1:L.get 1=some (0,.box (AE c))
 p4:L.get 4=some (g,.box [.ptr 0 911 (γ+1) 0])
 p6:L.get 6=some (g+1,.box [sl (f.map AM)])
 p7:L.get 7=some (g+1+1,.box [.fn 90 [] [.ptr 0 6 (g+1) 0,.ptr 0 4 g 0,.ptr 0 1 0 0,.ptr 0 7 (g+1+1) 0]])
 no:∀k,¬k∈[1,4,6,7,910,911]->L.get k=none
theorem UM.next{c:AP}{γ g:Nat}{f:List Int}{L L':AA}(h:UM c γ g f L)(h':Lw c γ L L'):UM c γ g f L' where
 w:=h'.self
 p1:=(h'.ot 1 (by decide)).trans h.p1
 p4:=(h'.ot 4 (by decide)).trans h.p4
 p6:=(h'.ot 6 (by decide)).trans h.p6
 p7:=(h'.ot 7 (by decide)).trans h.p7
 no:=fun k hk=>(h'.ot k fun e=>hk (by simp[e])).trans (h.no k hk)
theorem UM.put{c:AP}{γ g:Nat}{f:List Int}{L:AA}(h:UM c γ g f L)(out:List Int):UM c γ g out ((6,g+1,.box [sl (out.map AM)])::L) where
 w:=⟨by obtain⟨T,h1,h2⟩:=h.w.p0;exact⟨T,h1,by simpa using h2⟩,by simpa using h.w.p1,fun t ht=>by simp[h.w.st t ht],fun _ _=>rfl⟩
 p1:=by simpa using h.p1
 p4:=by simpa using h.p4
 p6:=by simp
 p7:=by simpa using h.p7
 no:=fun k hk=>by have:¬k=6:=fun e=>hk (by simp[e]);rw[<-h.no k hk];simp[this]
def AA8(c:AP)(γ g M m:Nat):Prop:=∀(rs:List AA) (f:List Int) (L:AA) (out:List Int) (fr0 cc:Nat),UM c γ g f L->EQ rs->γ+1<cc->g+1+1<cc->out.length+m<=c.fams.length->fr0<=c.fams.length ->
 ∃L' f' c',UM c γ g f' L'/\cc<=c'/\(∀x,DR (FW c) c.fams.length m fr0 out=some x->f'=x) /\
  ∀(n dd:Nat) (fr:Fr),bL bb (some dd) fr bc.results.toList (AF bb ann kn (n+M) bc.ntmps c90 ⟨cc,AD 0 [sl (out.map AM),i fr0,i m,.ptr 0 6 (g+1) 0,.ptr 0 4 g 0,.ptr 0 1 0 0,.ptr 0 7 (g+1+1) 0],⟨L::rs,[]⟩⟩) =
   UC (some dd) fr c' (.bool (DR (FW c) c.fams.length m fr0 out).isSome) (B9 (L'::rs))
theorem A8R(c:AP)(hc:BZ c)(γ g:Nat):AA8 c γ g 7000 0:=by
 intro rs f L out fr0 cc hL hst hcc hcg ho hfr;have hfl:=hc.fl;have hP:=hL.put out;have hgs:∀x∈BA c out,x.1<c.fams.length/\1<=x.2/\x.2<=4:=fun x hx=>QN hc out _ (Nat.le_refl _) x hx;have hgl:(BA c out).length<=9:=by rw[RE,List.length_map];have:=List.length_filter_le (fun k:Nat=>!decide ((k:Int)∈out)) (List.range c.fams.length);simp[V0]at this|-;omega
 have hgr:bS (rs++[[]]) (BA c out) (sl ((BA c out).map CM)):=.inl rfl;have hst2:EQ (rs++[[]]):=FC hst fun t _=>rfl;obtain⟨L',c',r1,r2,r3⟩:=AX2 hc hgl hgs (rs++[[]]) hst2 hgr _ hP.w cc (by omega);have hz:(DR (FW c) c.fams.length 0 fr0 out).isSome=WV c (AN c) (BA c out):=by show(if FW c out=true then some out else none).isSome=_;unfold FW;cases WV c (AN c) (BA c out)<;>rfl
 refine⟨L',out,c',hP.next r1,r2,fun x hx=>?_,fun n dd fr=>?_⟩
 ·unfold DR at hx;split at hx
  ·cases hx;rfl
  ·cases hx
 ·rw[hz];have qG:=fun n=>tD n c (by omega) out (by omega);have q2:∀n fr,G7 (BH bb ann kn (n+6500)) (some 22) ⟨cc,fr,⟨((6,g+1,.box [sl (out.map AM)])::L)::rs,[]⟩⟩ 91 [.ptr 0 911 (γ+1) 0,sl ((BA c out).map CM)]=some ⟨c',(22,true,.bool (WV c (AN c) (BA c out)))::fr,⟨L'::rs,[]⟩⟩:=fun n fr=>by rw[A2 Tryz.func91 b91 rfl (by simp),bk];refine(r3 n 22 fr).trans ?_;rw[<-bk,unsnoc_snoc];rfl
  generalize WV c (AN c) (BA c out)=z at q2|-;have p1:=hL.w.p1;have p4:=hL.p4;have p6:=hL.p6;have sL:=r1.st;have hg1:g+1<cc:=by omega
  simp only[show bc.ntmps=44 from rfl];have hclB:c.chairs.all ((fun e=>e.all (AG 7))∘AS)=true:=List.all_eq_true.2 fun x _=>by simp[AS,BU]
  have hclF:c.fams.all ((fun e=>e.all (AG 7))∘AU)=true:=List.all_eq_true.2 fun x _=>by simp[AU]
  have hcG:∀f:Nat,AG (f+3) (sl ((BA c out).map CM))=true:=fun f=>by cases BA c out<;>simp[sl,CM]
  have hwG:weakV (sl ((BA c out).map CM))=sl ((BA c out).map CM):=by cases BA c out<;>simp[sl]
  generalize sl ((BA c out).map CM)=gl at *;simp only[BV,AE]at p1 qG;have sR1:∀(A lo:AA),rs.map (AH ⟨A::rs,lo⟩)=rs:=fun A lo=>hst _ (by simp);simp[c90,AD,p1,p4,p6,qG,q2,hg1,hwG,hclB,hclF,AA.put,B8,BO,sL,sR1]
theorem lLe(c:AP)(hc:BZ c)(γ g W m:Nat)(hrec:AA8 c γ g (W+7000) m)(rs:List AA)(hst:EQ rs)(out:List Int)(ho:out.length+(m+1)<=c.fams.length) :
  ∀(e j:Nat) (f:List Int) (L D:AA) (cc:Nat),c.fams.length-m-j=e->j<=c.fams.length->UM c γ g f L->γ+1<cc->g+1+1<cc->(D=[]\/∃g,D=[(35,g,.dead)]) ->
  ∃(L' D':AA) (f':List Int) (c':Nat) (x:Fr),UM c γ g f' L'/\cc<=c'/\(∀y,C0 (fun j=>DR (FW c) c.fams.length m (j+1) (out++[(j:Int)])) e j=some y->f'=y) /\
   ∀n k,e<k->BM (AF bb ann kn (n+W+7050) 44) YT (ann 44 (CG YT)) k ⟨cc,[(0,true,sl (out.map AM)),(2,true,i ((m+1:Nat):Int)),(5,true,.ptr 0 1 0 0),(6,true,.ptr 0 7 (g+1+1) 0),(11,true,i j)],⟨L::rs,D⟩⟩ =
    match C0 (fun j=>DR (FW c) c.fams.length m (j+1) (out++[(j:Int)])) e j with
    |some _=>some (.ret,⟨c',[(10,true,.bool true)],⟨L'::rs,[]⟩⟩)
    |none=>some (.exit 0,⟨c',x,⟨L'::rs,D'⟩⟩)
 |0,j,f,L,D,cc,he,hj,hL,hcc,hcg,hD=>by
  have hl:=hc.fl;have p1:=hL.p1;have hw:IntKind.i64.wrap ((c.fams.length:Int)-((m+1:Nat):Int))=(c.fams.length:Int)-((m+1:Nat):Int):=AX (by omega) (by omega);have hnot:¬((j:Int)<=(c.fams.length:Int)-((m+1:Nat):Int)):=by omega
  simp only[AE]at p1;generalize ((m+1:Nat):Int)=mi at *;refine⟨L,D,f,cc,?_,hL,Nat.le_refl _,fun y hy=>(by cases hy),fun n k hk=>?_⟩;rotate_left
  ·obtain⟨k,rfl⟩:∃k',k=k'+1:=⟨k-1,by omega⟩;rcases hD with rfl|⟨g,rfl⟩
   ·simp[AB,C0,p1,hw,hnot];rfl
   ·simp[AB,C0,p1,hw,hnot]
 |e+1,j,f,L,D,cc,he,hj,hL,hcc,hcg,hD=>by
  have hl:=hc.fl;have p1:=hL.p1;have p7:=hL.p7;have hw:IntKind.i64.wrap ((c.fams.length:Int)-((m+1:Nat):Int))=(c.fams.length:Int)-((m+1:Nat):Int):=AX (by omega) (by omega);have hle:(j:Int)<=(c.fams.length:Int)-((m+1:Nat):Int):=by omega
  have hw1:IntKind.i64.wrap ((j:Int)+1)=(j:Int)+1:=AX (by omega) (by omega);have hw2:IntKind.i64.wrap (((m+1:Nat):Int)-1)=(m:Int):=by rw[AX (by omega) (by omega)];omega
  simp only[AE]at p1;have qC:=fun n=>AOH n out (by omega);have happ:B0 bb 3 out.length [[.int .i64 j]]=true:=by rw[CC (by simp) (by simp)];simp[maxLen];omega
  have hga:(out.map AM++[[V.int .i64 (j:Int)]])=(out++[(j:Int)]).map AM:=by simp[AM]
  have hlen:(out++[(j:Int)]).length=out.length+1:=by simp
  generalize hout:out++[(j:Int)]=out' at *;obtain⟨loc,hloc⟩:∃loc:AA,loc=[(35,cc+1,AV.dead),(35,cc+1,.vec 3 (out'.map AM)),(35,cc,.vec 3 (out.map AM))]:=⟨_,rfl⟩;have hcl:∀(t:St) (l:List Int),CH t (.vec 3 (l.map AM))=.vec 3 (l.map AM):=fun t l=>OV fun e he v hv=>by obtain⟨x,_,rfl⟩:=List.mem_map.1 he;simp only[AM,List.mem_cons,List.not_mem_nil,or_false]at hv;rw[hv];rfl
  have hst':EQ (rs++[loc]):=FC hst fun t ht=>by rw[hloc];simp[A1,hcl]
  obtain⟨L1,f1,c1,hL1,hc1,hf1,q⟩:=hrec (rs++[loc]) f L out' (j+1) (cc+1+1) hL hst' (by omega) (by omega) (by omega) (by omega);have q2:∀n fr,G7 (BH bb ann kn (n+W+7045)) (some 43) ⟨cc+1+1,fr,⟨L::rs,loc⟩⟩ 90 [sl (out'.map AM),i ((j+1:Nat):Int),i m,.ptr 0 6 (g+1) 0,.ptr 0 4 g 0,.ptr 0 1 0 0,.ptr 0 7 (g+1+1) 0]=some ⟨c1,(43,true,.bool (DR (FW c) c.fams.length m (j+1) out').isSome)::fr,⟨L1::rs,loc⟩⟩:=fun n fr=>by have q:=q (n+45) 43 fr;rw[show n+45+(W+7000)=n+W+7045 by omega]at q;rw[A2 Tryz.func90 b90 rfl (by simp),bk,q,<-bk,unsnoc_snoc];rfl
  have hti:=fun fr h=>zJ (t:=38) (c:=cc+1+1) (l:=rs.length+1) (q:=35) (γ:=cc+1) (n:=out.length+1) (fr:=fr) (s:=⟨L::rs,[(35,cc+1,.vec 3 (out'.map AM)),(35,cc,.vec 3 (out.map AM))]⟩) (U:=3) (es:=out'.map AM) h (by simp) (by simp;omega) (by omega);have htk:(out'.map AM).take (out.length+1)=out'.map AM:=List.take_of_length_le (by simp;omega);have hsl:sl (out'.map AM)=.list false (out'.map AM):=by
   cases out' with
   |nil=>simp at hlen
   |cons y ys=>rfl
  rw[hsl]at q2;simp only[hloc]at q2;cases hz:DR (FW c) c.fams.length m (j+1) out' with
  |some y=>
   rw[hz]at q2
   simp only[Option.isSome_some]at q2
   have hy:C0 (fun j=>DR (FW c) c.fams.length m (j+1) (out++[(j:Int)])) (e+1) j=some y:=by simp only[C0];rw[hout,hz]
   refine⟨L1,[],f1,c1,[],hL1,by omega,fun y' hy'=>?_,fun n k hk=>?_⟩
   ·rw[hy]at hy';cases hy';exact hf1 _ hz
   ·obtain⟨k,rfl⟩:∃k',k=k'+1:=⟨k-1,by omega⟩;rw[AB,hy];generalize ((m+1:Nat):Int)=mi at *;simp at q2;rcases hD with rfl|⟨g,rfl⟩
    ·simp[p1,p7,hw,hle,hw1,hw2,qC,happ,IE,AM,hga,hti,htk,q2];done
    ·simp[p1,p7,hw,hle,hw1,hw2,qC,happ,IE,AM,hga,hti,htk,q2];done
  |none=>
   rw[hz]at q2
   simp only[Option.isSome_none]at q2
   have hy:C0 (fun j=>DR (FW c) c.fams.length m (j+1) (out++[(j:Int)])) (e+1) j=C0 (fun j=>DR (FW c) c.fams.length m (j+1) (out++[(j:Int)])) e (j+1):=by simp only[C0];rw[hout,hz]
   obtain⟨L2,D2,f2,c2,x2,hL2,hc2,hf2,ih⟩:=lLe c hc γ g W m hrec rs hst out ho e (j+1) f1 L1 [(35,cc+1,.dead)] c1 (by omega) (by omega) hL1 (by omega) (by omega) (.inr ⟨_,rfl⟩)
   rw[hy]
   refine⟨L2,D2,f2,c2,x2,hL2,by omega,hf2,fun n k hk=>?_⟩
   obtain⟨k,rfl⟩:∃k',k=k'+1:=⟨k-1,by omega⟩
   have ih:=ih n k (by omega)
   rw[AB]
   generalize C0 (fun j=>DR (FW c) c.fams.length m (j+1) (out++[(j:Int)])) e (j+1)=r at ih|-
   generalize ((m+1:Nat):Int)=mi at *
   simp at q2 ih
   rcases hD with rfl|⟨g,rfl⟩
   ·simp[p1,p7,hw,hle,hw1,hw2,qC,happ,IE,AM,hga,hti,htk,q2,ih];done
   ·simp[p1,p7,hw,hle,hw1,hw2,qC,happ,IE,AM,hga,hti,htk,q2,ih];done
theorem kLe(c:AP)(hc:BZ c)(γ g:Nat):∀m,AA8 c γ g (100*m+7000) m
 |0=>A8R c hc γ g
 |m+1=>by
  intro rs f L out fr0 cc hL hst hcc hcg ho hfr;have hl:=hc.fl;obtain⟨L1,D1,f1,c1,x,hL1,hc1,hf1,hlp⟩:=lLe c hc γ g (100*m) m (kLe c hc γ g m) rs hst out ho (c.fams.length-m-fr0) fr0 f L [] cc rfl hfr hL hcc hcg (.inl rfl);have hsr:DR (FW c) c.fams.length (m+1) fr0 out=C0 (fun j=>DR (FW c) c.fams.length m (j+1) (out++[(j:Int)])) (c.fams.length-m-fr0) fr0:=rfl;rw[hsr];refine⟨L1,f1,c1,hL1,hc1,hf1,fun n dd fr=>?_⟩;have hlp:=hlp (n+44) (n+100*m+7094) (by omega);have hm1:¬(((m+1:Nat):Int)=0):=by omega
  rw[show n+44+100*m+7050=n+100*m+7094 by omega]at hlp;rw[show n+(100*(m+1)+7000)=n+100*m+7100 by omega];simp only[show bc.ntmps=44 from rfl];generalize C0 (fun j=>DR (FW c) c.fams.length m (j+1) (out++[(j:Int)])) (c.fams.length-m-fr0) fr0=r at hlp|-;generalize ((m+1:Nat):Int)=mi at *;have hs1:=hL1.w.st;have sR1:∀(A lo:AA),rs.map (AH ⟨A::rs,lo⟩)=rs:=fun A lo=>hst _ (by simp);cases r with
  |some y=>
   simp at hlp
   simp[c90,AD,hm1,hlp,hs1,sR1]
   done
  |none=>
   simp at hlp
   simp[c90,AD,hm1,hlp,hs1,sR1]
   done
def NF(c:AP)(γ g:Nat)(f:List Int)(T:List (Sp×BJ)):AA:=[(1,0,.box (AE c)),(4,g,.box [.ptr 0 911 (γ+1) 0]),(6,g+1,.box [sl (f.map AM)]),(7,g+1+1,.box [.fn 90 [] [.ptr 0 6 (g+1) 0,.ptr 0 4 g 0,.ptr 0 1 0 0,.ptr 0 7 (g+1+1) 0]]),(910,γ,.map (T.map GB)),(911,γ+1,.box (BV c γ))]
theorem XC{c:AP}{γ g:Nat}{f:List Int}{T:List (Sp×BJ)}(hT:iI c T):UM c γ g f (NF c γ g f T) where
 w:=⟨⟨T,hT,by simp[NF]⟩,by simp[NF],fun t ht=>by
  have e0:¬0=t.up.length:=by omega
  have hcE:∀l∈AN c,encA l=l.map fun x=>i x:=fun _ _=>rfl;have hs:=iJ t T;obtain⟨up,lo⟩:=t;simp only at e0;simp[NF,BV,AE,e0,hs],fun _ _=>rfl⟩
 p1:=by simp[NF]
 p4:=by simp[NF]
 p6:=by simp[NF]
 p7:=by simp[NF]
 no:=fun k hk=>by simp only[List.mem_cons,List.not_mem_nil,or_false,not_or]at hk;simp[NF,hk.1,hk.2.1,hk.2.2.1,hk.2.2.2.1,hk.2.2.2.2.1,hk.2.2.2.2.2]
theorem AA9(c:AP)(hc:BZ c)(γ g:Nat):∀(e j:Nat) (f:List Int) (L:AA) (cc:Nat),j+e=c.fams.length+1->UM c γ g f L->γ+1<cc->g+1+1<cc ->
  ∃(f':List Int) (L':AA) (c':Nat) (fr:Fr),UM c γ g f' L'/\BL fr 6=some (true,.ptr 0 6 (g+1) 0)/\(∀y,C0 (fun m=>DR (FW c) c.fams.length m 0 []) e j=some y->f'=y)/\∀n k,e<k ->
   BM (AF bb ann kn (n+8500) 30) YU (ann 30 (CG YU)) k ⟨cc,[(6,true,.ptr 0 6 (g+1) 0),(7,true,.ptr 0 7 (g+1+1) 0),(21,true,i ((c.fams.length+1:Nat):Int)),(22,true,i j)],⟨[],L⟩⟩ =
    some (.exit 0,⟨c',fr,⟨[],L'⟩⟩)
 |0,j,f,L,cc,hd,hL,hcc,hcg=>by
  have hnot:¬((j:Int)<((c.fams.length+1:Nat):Int)):=by omega
  generalize ((c.fams.length+1:Nat):Int)=N at *;obtain⟨T,hT,p910⟩:=hL.w.p0;have p911:=hL.w.p1;have n11:=hL.no 11 (by decide);have n27:=hL.no 27 (by decide);have p1:=hL.p1;have p4:=hL.p4;have p6:=hL.p6;have p7:=hL.p7;refine⟨f,NF c γ g f T,cc,?fr,XC hT,?g1,fun y hy=>(by cases hy),fun n k hk=>?g⟩;case g=>
   obtain⟨k,rfl⟩:∃k',k=k'+1:=⟨k-1,by omega⟩
   simp[AB,NF,hnot,p1,p4,p6,p7,p910,p911,n11]
   rfl
  case g1=>simp
 |e+1,j,f,L,cc,hd,hL,hcc,hcg=>by
  have hl:=hc.fl;have hlt:(j:Int)<((c.fams.length+1:Nat):Int):=by omega
  have hw:=B7 (k:=j) (by omega);obtain⟨T,hT,o910⟩:=hL.w.p0;have o911:=hL.w.p1;have m11:=hL.no 11 (by decide);have m27:=hL.no 27 (by decide);have o1:=hL.p1;have o4:=hL.p4;have o6:=hL.p6;have o7:=hL.p7;obtain⟨L1,f1,c1,hL1,hc1,hf1,q⟩:=kLe c hc γ g j [] f (NF c γ g f T) [] 0 cc (XC hT) (fun t _=>rfl) hcc hcg (by simp;omega) (by omega);obtain⟨T1,hT1,p910⟩:=hL1.w.p0;have p911:=hL1.w.p1;have n11:=hL1.no 11 (by decide);have n27:=hL1.no 27 (by decide);have n3:=hL1.no 3 (by decide);have n8:=hL1.no 8 (by decide);have n25:=hL1.no 25 (by decide);have p1:=hL1.p1;have p4:=hL1.p4;have p6:=hL1.p6;have p7:=hL1.p7;have q2:∀n fr,G7 (BH bb ann kn (n+8493)) (some 27) ⟨cc,fr,⟨[],NF c γ g f T⟩⟩ 90 [.nil,i 0,i j,.ptr 0 6 (g+1) 0,.ptr 0 4 g 0,.ptr 0 1 0 0,.ptr 0 7 (g+1+1) 0]=some ⟨c1,(27,true,.bool (DR (FW c) c.fams.length j 0 []).isSome)::fr,⟨[],L1⟩⟩:=fun n fr=>by have q:=q (n+1493-100*j) 27 fr;rw[show n+1493-100*j+(100*j+7000)=n+8493 by omega]at q;rw[A2 Tryz.func90 b90 rfl (by simp)];have hs:sl (List.map AM [])=.nil:=rfl;rw[hs]at q;simp only[Int.natCast_zero,List.nil_append]at q|-;rw[q];rfl
  cases hz:DR (FW c) c.fams.length j 0 []with
  |some y=>
   rw[hz]at q2
   have hy:C0 (fun m=>DR (FW c) c.fams.length m 0 []) (e+1) j=some y:=by simp only[C0];rw[hz]
   rw[hy]
   generalize ((c.fams.length+1:Nat):Int)=N at *
   refine⟨f1,L1,c1,?fr2,hL1,?g3,fun y' h=>?g5,fun n k hk=>?g4⟩
   case g5=>
    cases h
    exact hf1 _ hz
   case g4=>
    obtain⟨k,rfl⟩:∃k',k=k'+1:=⟨k-1,by omega⟩
    rw[AB]
    simp only[NF]at q2|-
    simp at q2
    simp[hlt,o1,o4,o6,o7,o910,o911,m11,q2]
    rfl
   case g3=>simp
  |none=>
   rw[hz]at q2
   have hy:C0 (fun m=>DR (FW c) c.fams.length m 0 []) (e+1) j=C0 (fun m=>DR (FW c) c.fams.length m 0 []) e (j+1):=by simp only[C0];rw[hz]
   obtain⟨f2,L2,c2,fr2,hL2,hg2,hf2,ih⟩:=AA9 c hc γ g e (j+1) f1 (NF c γ g f1 T1) c1 (by omega) (XC hT1) (by omega) (by omega)
   rw[hy]
   refine⟨f2,L2,c2,fr2,hL2,hg2,hf2,fun n k hk=>?_⟩
   obtain⟨k,rfl⟩:∃k',k=k'+1:=⟨k-1,by omega⟩
   have ih:=ih n k (by omega)
   generalize ((c.fams.length+1:Nat):Int)=N at *
   rw[AB]
   simp only[NF]at q2 ih|-
   simp at q2 ih
   simp[hlt,hw,o1,o4,o6,o7,o910,o911,m11,p1,p4,p6,p7,p910,p911,n11,n3,n8,q2,ih]
theorem wS(c:AP):(QI (FW c) c.fams.length).isSome=true:=by obtain⟨y,h,_⟩:=NM c;rw[h];rfl
theorem tE(n:Nat)(c:AP)(h40:∀l∈c.beach.winds,l.length<=40)(hch:c.chairs.length<=40):A3 bb kn (AF bb ann kn (n+9600)) 41 [.agg (AE c)]=some (.tup [sl ((XA c).1.map AM),i (XA c).2]):=by
 rw[AQ rfl,AR Tryz.func41 b41 rfl (by simp[AE,AS,BU,AU])];unfold XA;by_cases h:CZ c=0
 ·rw[if_neg (by simp[h])];have hc:=GR h;have hfl:=hc.fl;obtain⟨g',hg,q⟩:=XB c hc [(1,0,.box (AE c))] (fun t _=>tB c 1 0 t) 1 11 [(10,true,.agg (AE c)),(1,true,.ptr 0 1 0 0)];have q:=fun n=>q (n+1596);have hT0:iI c []:=⟨by simp,by simp,by simp⟩;obtain⟨f',L',c',fr,hL,g6,hf',ql⟩:=AA9 c hc 2 g' (c.fams.length+1) 0 [] (NF c 2 g' [] []) (g'+1+1+1) (by omega) (XC hT0) (by omega) (by omega);have ql:=ql (n+1088) (n+9588) (by omega);rw[show n+1088+8500=n+9588 by omega]at ql;have hw:IntKind.i64.wrap ((c.fams.length:Int)+1)=((c.fams.length+1:Nat):Int):=by rw[AX (by omega) (by omega)];rfl
  obtain⟨y,hy⟩:=Option.isSome_iff_exists.1 (wS c);have:=hf' y hy;subst this;rw[hy];obtain⟨T,hT,p910⟩:=hL.w.p0;have p911:=hL.w.p1;have n11:=hL.no 11 (by decide);have n27:=hL.no 27 (by decide);have p1:=hL.p1;have p4:=hL.p4;have p6:=hL.p6;have p7:=hL.p7;generalize ((c.fams.length+1:Nat):Int)=N at *;simp only[AE,BV,NF,List.map_nil,iG]at q ql|-;simp at ql;simp[c41,AD,q,hw,ql,g6,p1,p4,p6,p7,p910,p911,n11]
 ·rw[if_pos h];have q:=QM c h40 hch h [(1,0,.box (AE c))] (fun t _=>tB c 1 0 t) 1 11 [(10,true,.agg (AE c)),(1,true,.ptr 0 1 0 0)];have q:=fun n=>q (n+1596);generalize CZ c=E at *;simp only[AE,Nat.add_assoc,Nat.reduceAdd]at q|-;simp[c41,AD,q,h,iG,show A9 (V.raw (Value.pointer none))=true from rfl,show(A7 (V.raw (Value.pointer none))).length=1 from rfl]
structure BFT(c:AP)(γ γp:Nat)(out:List Int)(L:AA):Prop where
 w:Lw c γ L L
 p1:L.get 1=some (0,.box (AE c))
 p35:L.get 35=(pl 35 γp 3 (out.map AM)).get 35
 no:∀k,¬k∈[1,35,910,911]->L.get k=none
theorem A8S(a1 a2 a3 a4 a5 b1 b2 b3 b4 b5:Int)(h1:GQ a1)(h2:GQ a2)(h3:GQ a3)(h4:GQ a4)(h5:GQ a5)(g1:GQ b1)(g2:GQ b2)(g3:GQ b3)(g4:GQ b4)(g5:GQ b5):WX bb 206 [i a1,i a2,i a3,i a4,i a5] [i b1,i b2,i b3,i b4,i b5]=some (decide (a1=b1)&&(decide (a2=b2)&&(decide (a3=b3)&&(decide (a4=b4)&&decide (a5=b5))))):=by
 have kl:∀a b c d e:Int,GQ a->GQ b->GQ c->GQ d->GQ e->Program.keyLits bb 16 206 [.int .i64 a,.int .i64 b,.int .i64 c,.int .i64 d,.int .i64 e]=some [.int .i64 a,.int .i64 b,.int .i64 c,.int .i64 d,.int .i64 e]:=fun a b c d e ha hb hc hd he=>by unfold Program.keyLits;simp[Tryz.underlying206,show List.range 5=[0,1,2,3,4] from rfl,k3I (wfI ha),k3I (wfI hb),k3I (wfI hc),k3I (wfI hd),k3I (wfI he)]
 have kt:(ADB bb 206&&Program.keyTypeAt bb 16 206&&!(bb.eqGuardType bb.depth 206))=true:=by kernel_rfl
 unfold WX;simp[DX,kl _ _ _ _ _ h1 h2 h3 h4 h5,kl _ _ _ _ _ g1 g2 g3 g4 g5];refine⟨⟨by simpa using kt,by simp[CS]⟩,?_⟩;simp only[K0,Bool.and_true];congr 1
theorem lSm(A B:List (List Int))(hl:A.length=B.length)(h5:∀l∈A,l.length=5/\∀x∈l,GQ x)(g5:∀l∈B,l.length=5/\∀x∈l,GQ x)(hb:A.length<=100)(cc:Nat):∀(d k:Nat),k+d=A.length->∃fr,∀n m,d<m ->
  BM (AF bb ann kn (n+100) 21) YV (ann 21 (CG YV)) m ⟨cc,[(0,true,.list false (A.map encA)),(1,true,.list false (B.map encA)),(7,true,i A.length),(8,true,i k)],⟨[],[]⟩⟩ =
   if A.drop k=B.drop k then some (.exit 0,⟨cc,fr,⟨[],[]⟩⟩) else some (.ret,⟨cc,[(4,true,.bool false)],⟨[],[]⟩⟩)
 |0,k,hd=>by
  have hk:k=A.length:=by omega
  have hnot:¬k<A.length:=by omega
  refine⟨?fr,fun n m hm=>?g⟩;case g=>
   obtain⟨m,rfl⟩:=qNz m (by omega)
   rw[if_pos (by rw[bx (by omega),bx (by omega)])]
   simp[AB,hnot]
   rfl
 |d+1,k,hd=>by
  have hk:k<A.length:=by omega
  have hk2:k<B.length:=by omega
  have hw:=B7 (k:=k) (by omega);obtain⟨fr,ih⟩:=lSm A B hl h5 g5 hb cc d (k+1) (by omega);refine⟨fr,fun n m hm=>?_⟩;obtain⟨m,rfl⟩:=qNz m (by omega);have ih:=ih n m (by omega);obtain⟨a1,a2⟩:=h5 A[k] (List.getElem_mem hk);obtain⟨b1,b2⟩:=g5 B[k] (List.getElem_mem hk2);rw[bq hk,bq hk2];generalize hva:A[k]=va at *;generalize hvb:B[k]=vb at *;match va,a1,a2,vb,b1,b2 with
  |[x1,x2,x3,x4,x5],_,a2,[y1,y2,y3,y4,y5],_,b2=>
   have hq:=A8S x1 x2 x3 x4 x5 y1 y2 y3 y4 y5 (a2 _ (by simp)) (a2 _ (by simp)) (a2 _ (by simp)) (a2 _ (by simp)) (a2 _ (by simp)) (b2 _ (by simp)) (b2 _ (by simp)) (b2 _ (by simp)) (b2 _ (by simp)) (b2 _ (by simp))
   rw[AB]
   by_cases e:[x1,x2,x3,x4,x5]=[y1,y2,y3,y4,y5]
   ·have hq2:(decide (x1=y1)&&(decide (x2=y2)&&(decide (x3=y3)&&(decide (x4=y4)&&decide (x5=y5)))))=true:=by simpa using e
    rw[hq2]at hq;have he:((([x1,x2,x3,x4,x5]:List Int)::A.drop (k+1)=[y1,y2,y3,y4,y5]::B.drop (k+1))↔A.drop (k+1)=B.drop (k+1)):=by rw[e];exact⟨fun h=>(List.cons.inj h).2,fun h=>by rw[h]⟩
    simp only[he];simp at ih;simp[hk,hk2,hw,hva,hvb,encA,hq,ih]
   ·have hq2:(decide (x1=y1)&&(decide (x2=y2)&&(decide (x3=y3)&&(decide (x4=y4)&&decide (x5=y5)))))=false:=by rw[Bool.eq_false_iff];intro hh;exact e (by simpa using hh)
    rw[hq2]at hq;rw[if_neg fun hh=>e (List.cons.inj hh).1];simp[hk,hk2,hva,hvb,encA,hq]
theorem AYA(n:Nat)(A B:List (List Int))(hl:A.length=B.length)(h5:∀l∈A,l.length=5/\∀x∈l,GQ x)(g5:∀l∈B,l.length=5/\∀x∈l,GQ x)(hb:A.length<=100):A3 bb kn (AF bb ann kn (n+300)) 97 [.list false (A.map encA),.list false (B.map encA)]=some (.bool (decide (A=B))):=by
 rw[AQ rfl,AR Tryz.func97 b97 rfl (by simp[encA])];obtain⟨fr,q⟩:=lSm A B hl h5 g5 hb 0 A.length 0 (by omega);have q:=fun n m=>q n (m+150) (by omega);rw[List.drop_zero,List.drop_zero]at q;by_cases h:A=B
 ·rw[if_pos h]at q;rw[decide_eq_true h];simp at q;simp[c97,AD,q]
 ·rw[if_neg h]at q;rw[decide_eq_false h];simp at q;simp[c97,AD,q]
@[simp] theorem AT0:JA bb 96=true:=by kernel_rfl
theorem AOI(n:Nat)(a:Option Addr)(k:Nat):GO bb (AF bb ann kn (n+100)) 96 [.raw (.slice a 0 k)]=some ⟨.vec 86 [],none⟩:=by cases a<;>kernel_rfl
theorem O0:koV bb 96 [.list false []]=some ⟨.vec 86 [],none⟩ :=
 AQQ (by kernel_rfl) (AEC Kn.hP (T8 Kn.hP Kn.hkn 100) fun a k=>AOI 0 a k)
theorem AOJ(n:Nat):GO bb (AF bb ann kn (n+100)) 96 [.list false []]=none:=by kernel_rfl
theorem AYB(e:List V)(es:List (List V)):HC bb .eql 37 (.list false (e::es)) .nil=some (.bool false):=by
 have h:C8 bb 37=true:=by kernel_rfl
 show(if C8 bb 37=true then(HB (.list false (e::es))).map V.bool else none)=_;rw[if_pos h];rfl
theorem L9(n:Nat)(x:Int×Int)(xs:List (Int×Int))(hl:xs.length<=90):GO bb (AF bb ann kn (n+100)) 96 [.list false ((x::xs).map AL)]=some ⟨.vec 86 ((x::xs).map AL),none⟩:=by
 rw[eW Tryz.func96 b96 rfl (by simp[AL])];have ha:B0 bb 86 0 ((x::xs).map AL)=true:=by rw[CC (by simp) (by simp)];simp[maxLen,AL]at hl|-;omega
 simp only[List.map_cons]at ha|-;simp[c96,AD,iL,ha,AYB];rw[show xs.length+1=(AL x::xs.map AL).length by simp];exact AFK (P:=bb) (R:=37) (T:=86) (by kernel_rfl) (by simp) _ _ _ 7 0 (AL x::xs.map AL) (by simp) (by simp[AL])
def RF(a:OZ):Int×Int:=match a with
 |some a=>a.1
 |none=>(0,0)
def RG(a:OZ):BJ:=match a with
 |some a=>a.2
 |none=>⟨0,0,false⟩
def RH(c:AP)(g7:Nat)(a:OZ)(γ:Nat)(T:List (Sp×BJ))(d:AP):AA:=[(1,0,.box (AE c)),(2,1,.box (AL (RF a))),(7,g7,.box (BT (RG a))),(910,γ,.map (T.map GB)),(911,γ+1,.box (BV d γ))]
def bT(c:AP)(g7:Nat)(a:OZ)(γ:Nat)(T:List (Sp×BJ))(d:AP)(s:Int×Int)(g:Nat):AA:=[(1,0,.box (AE c)),(2,1,.box (AL (RF a))),(7,g7,.box (BT (RG a))),(11,g,.box (AE (BD c s))),(12,g+1,.box (AL s)),(910,γ,.map (T.map GB)),(911,γ+1,.box (BV d γ))]
theorem wT(c:AP)(g7:Nat)(a:OZ)(γ:Nat)(T:List (Sp×BJ))(d:AP)(s:Int×Int)(g:Nat)(t:St)(ht:1<=t.up.length):AH t (bT c g7 a γ T d s g)=bT c g7 a γ T d s g:=by
 have e0:¬0=t.up.length:=by omega
 have hs:=iJ t T;obtain⟨up,lo⟩:=t;simp only at e0;simp[bT,BV,AE,AL,BT,hs]
def UN(c:AP)(g7:Nat)(a:OZ)(s:Int×Int)(g:Nat):AA:=[(1,0,.box (AE c)),(2,1,.box (AL (RF a))),(7,g7,.box (BT (RG a))),(12,g+1,.box (AL s)),(910,g+1+1+1+1+1,.map []),(911,g+1+1+1+1+2,.box (BV (BD c s) (g+1+1+1+1+1)))]
theorem AHB(c:AP)(g7:Nat)(a:OZ)(s:Int×Int)(g:Nat):Lw (BD c s) (g+1+1+1+1+1) (UN c g7 a s g) (UN c g7 a s g) where
 p0:=⟨[],⟨by simp,by simp,by simp⟩,by simp[UN]⟩
 p1:=by simp[UN]
 st:=fun t ht=>by
  have e0:¬0=t.up.length:=by omega
  obtain⟨up,lo⟩:=t;simp only at e0;simp[UN,BV,AE,AL,BT,GS]
 ot:=fun _ _=>rfl
set_option maxHeartbeats 4000000 in
theorem YF(c:AP)(h0:CZ c=0)(hc:BZ c)(h3:c.beach.breaks.length<=3)(g7 r:Nat)(hr:(r:Int)<c.beach.rows):∀(k p:Nat) (st:OZ×List (List Int)) (γ:Nat) (T:List (Sp×BJ)) (d:AP) (cc:Nat),p+k=c.beach.places.toNat->st.2.length=c.beach.rows.toNat->(∀l∈st.2,l.length=5/\∀x∈l,GQ x)->g7<cc->1<cc->γ+1<cc ->
  ∃(γ':Nat) (T':List (Sp×BJ)) (d':AP) (c':Nat) (fr:Fr),cc<=c'/\γ'+1<c'/\((JQ c r k p st).2.length=c.beach.rows.toNat/\∀l∈(JQ c r k p st).2,l.length=5/\∀x∈l,GQ x)/\BL fr 1=some (true,.ptr 0 1 0 0)/\BL fr 2=some (true,.ptr 0 2 1 0)/\BL fr 6=some (true,.bool (JQ c r k p st).1.isSome)/\BL fr 7=some (true,.ptr 0 7 g7 0)/\BL fr 8=some (true,.list false ((JQ c r k p st).2.map encA))/\BL fr 41=some (true,i c.beach.rows)/\BL fr 42=some (true,i r)/\∀n m,k<m ->
   BM (AF bb ann kn (n+9400) 110) SQ (ann 110 (CG SQ)) m ⟨cc,[(1,true,.ptr 0 1 0 0),(2,true,.ptr 0 2 1 0),(6,true,.bool st.1.isSome),(7,true,.ptr 0 7 g7 0),(8,true,.list false (st.2.map encA)),(9,true,i r),(41,true,i c.beach.rows),(42,true,i r),(47,true,i c.beach.places),(48,true,i p)],⟨[],RH c g7 st.1 γ T d⟩⟩ =
    some (.exit 3,⟨c',fr,⟨[],RH c g7 (JQ c r k p st).1 γ' T' d'⟩⟩)
 |0,p,st,γ,T,d,cc,hd,hs1,hs2,h7,h1,hγ=>by
  have hpl:=hc.be.pl;have hnot:¬((p:Int)<c.beach.places):=by omega
  refine⟨γ,T,d,cc,?fr,Nat.le_refl _,hγ,⟨hs1,hs2⟩,?g1,?g2,?g3,?g4,?g5,?g6,?g7,fun n m hm=>?g⟩;case g=>
   obtain⟨m,rfl⟩:∃k',m=k'+1:=⟨m-1,by omega⟩
   simp[AB,hnot,RH,JQ]
   rfl
  all_goals simp[JQ]
 |k+1,p,st,γ,T,d,cc,hd,hs1,hs2,h7,h1,hγ=>by
  have hpl:=hc.be.pl;have hro:=hc.be.ro;have hlt:(p:Int)<c.beach.places:=by omega
  have hw:=B7 (k:=p) (by omega);have hsp:DU c.beach ((r:Int),(p:Int))=true:=by simp only[DU,Bool.and_eq_true,DT];omega
  have hx0:=X9 h0 h3 hsp;have hx:=GR hx0;have hsl:(AN (BD c ((r:Int),(p:Int)))).length=c.beach.rows.toNat:=K6;have hsk:∀l∈AN (BD c ((r:Int),(p:Int))),l.length=5/\∀x∈l,GQ x:=fun l hl=>⟨(K5 hx l hl).1,fun x hm=>by have:=(K5 hx l hl).2 x hm;constructor<;>omega⟩;obtain⟨g',hg',q⟩:=XB (BD c ((r:Int),(p:Int))) hx (bT c g7 st.1 γ T d ((r:Int),(p:Int)) cc) (wT c g7 st.1 γ T d _ cc) (cc+1+1+1+1) 66 [(65,true,.agg (AE (BD c ((r:Int),(p:Int))))),(1,true,.ptr 0 1 0 0),(2,true,.ptr 0 2 1 0),(6,true,.bool st.1.isSome),(7,true,.ptr 0 7 g7 0),(8,true,.list false (st.2.map encA)),(9,true,i r),(11,true,.ptr 0 11 cc 0),(12,true,.ptr 0 12 (cc+1) 0),(41,true,i c.beach.rows),(42,true,i r),(47,true,i c.beach.places),(48,true,i p)];have q:=fun n=>q (n+1390);obtain⟨L',c',r1,r2,r3⟩:=AA7 hx [] (fun _ _=>rfl) (UN c g7 st.1 ((r:Int),(p:Int)) cc) (AHB c g7 st.1 _ cc) g' (by omega);have hcb:=fun n fr=>(A2 (A:=ann) (kn:=kn) (n:=n+9000) Tryz.func85 b85 rfl (args:=[.ptr 0 911 (cc+1+1+1+1+2) 0]) (by simp) (some 84) g' fr [] (UN c g7 st.1 ((r:Int),(p:Int)) cc)).trans (r3 n 84 fr);have qo:=fun n x xs hl=>L9 n x xs hl;have qe:=fun n=>AOJ n;have ha:∀k,k<=100->B0 bb 86 k [[i r,i p]]=true:=fun k hk=>by rw[CC (by simp) (by simp)];simp[maxLen];omega
  have ha0:=ha 0 (by omega);have hcc:cc<cc+1+1+1+1:=by omega
  have hsm:=fun n=>AYA n (AN (BD c ((r:Int),(p:Int)))) st.2 (by rw[hs1];exact K6) hsk hs2 (by rw[K6];show c.beach.rows.toNat<=100;omega);have hcw:AE (BD c ((r:Int),(p:Int)))=[i c.beach.last,i c.beach.rows,i c.beach.places,i c.beach.reach,li c.beach.face,li c.beach.sun,I1 c.beach.winds,.list false ((c.beach.breaks++[((r:Int),(p:Int))]).map AL),.list false (c.beach.notes.map AL),I1 c.plan,.list false (c.chairs.map AS),.list false (c.fams.map AU)]:=rfl;have sL:=r1.st;have q1:L'.get 1=some (0,.box (AE c)):=r1.ot 1 (by decide);have q2:L'.get 2=some (1,.box (AL (RF st.1))):=r1.ot 2 (by decide);have q7:L'.get 7=some (g7,.box (BT (RG st.1))):=r1.ot 7 (by decide);have q12:L'.get 12=some (cc+1,.box (AL ((r:Int),(p:Int)))):=r1.ot 12 (by decide);have o16:L'.get 16=none:=r1.ot 16 (by decide);have o84:L'.get 84=none:=r1.ot 84 (by decide);obtain⟨T',_,z910⟩:=r1.p0;have z911:=r1.p1;have hlast:JQ c r (k+1) p st=JQ c r k (p+1) (KZ c st ((r:Int),(p:Int))):=rfl;have hc0:0<c':=by omega
  have hc7:g7<c'+1:=by omega
  obtain⟨sa,sS⟩:=st;simp only at *;cases sa with
  |none=>
   have hsl2:KZ c (none,sS) ((r:Int),(p:Int))=(DS c none ((r:Int),(p:Int)),AN (BD c ((r:Int),(p:Int)))):=rfl
   rw[hlast,hsl2]
   cases hO:ED (BD c ((r:Int),(p:Int)))with
   |none=>
    have hst:DS c none ((r:Int),(p:Int))=none:=by unfold DS;rw[hO]
    rw[hst]
    obtain⟨γ',T2,d',c2,fr,h1,h2,h3,f1,f2,f3,f4,f5,f6,f7,ih⟩:=YF c h0 hc h3 g7 r hr k (p+1) (none,AN (BD c ((r:Int),(p:Int)))) (cc+1+1+1+1+1) T' (BD c ((r:Int),(p:Int))) (c'+1) (by omega) hsl hsk (by omega) (by omega) (by omega)
    refine⟨γ',T2,d',c2,fr,by omega,h2,h3,f1,f2,f3,f4,f5,f6,f7,fun n m hm=>?g⟩
    case g=>
     obtain⟨m,rfl⟩:∃k',m=k'+1:=⟨m-1,by omega⟩
     have ih:=ih n m (by omega)
     generalize JQ c r k (p+1) (none,AN (BD c ((r:Int),(p:Int))))=FIN at *
     rw[AB]
     simp only[RH,bT,UN,BV]at q hcb ih z911|-
     simp only[hcw]at q hcb ih z911
     simp only[AE,BT]at q hcb ih q1 q2 q7 q12 z911|-
     rw[hO]at hcb
     cases hB:c.beach.breaks with
     |nil=>
      rw[hB]at q hcb ih q1 z911
      simp[AL,RF,RG,I2,KE]at q hcb ih q2 q7 q12 z911
      simp[RF,RG,hlt,hw,qe,O0,ha0,hcc,q,hcb,ih,q1,q2,q7,q12,z910,z911,AL,IE,B8,DF,BO,GN,E7]
     |cons b bs=>
      have hbl:bs.length+1<=3:=by have:=congrArg bw hB;rw[bj]at this;omega
      have qo:=fun n=>L9 n b bs (by omega)
      have haL:=ha (bs.length+1) (by omega)
      rw[hB]at q hcb ih q1 z911
      simp[AL,RF,RG,I2,KE]at q hcb ih q2 q7 q12 z911 qo
      simp[RF,RG,hlt,hw,qo,haL,hcc,q,hcb,ih,q1,q2,q7,q12,z910,z911,AL,IE,B8,DF,BO,GN,E7]
   |some q0=>
    have hst:DS c none ((r:Int),(p:Int))=some (((r:Int),(p:Int)),q0.2):=by unfold DS;rw[hO]
    rw[hst]
    obtain⟨γ',T2,d',c2,fr,h1,h2,h3,f1,f2,f3,f4,f5,f6,f7,ih⟩:=YF c h0 hc h3 g7 r hr k (p+1) (some (((r:Int),(p:Int)),q0.2),AN (BD c ((r:Int),(p:Int)))) (cc+1+1+1+1+1) T' (BD c ((r:Int),(p:Int))) (c'+1) (by omega) hsl hsk (by omega) (by omega) (by omega)
    refine⟨γ',T2,d',c2,fr,by omega,h2,h3,f1,f2,f3,f4,f5,f6,f7,fun n m hm=>?g⟩
    case g=>
     obtain⟨m,rfl⟩:∃k',m=k'+1:=⟨m-1,by omega⟩
     have ih:=ih n m (by omega)
     generalize JQ c r k (p+1) (some (((r:Int),(p:Int)),q0.2),AN (BD c ((r:Int),(p:Int))))=FIN at *
     rw[AB]
     simp only[RH,bT,UN,BV]at q hcb ih z911|-
     simp only[hcw]at q hcb ih z911
     simp only[AE,BT]at q hcb ih q1 q2 q7 q12 z911|-
     rw[hO]at hcb
     cases hB:c.beach.breaks with
     |nil=>
      rw[hB]at q hcb ih q1 z911
      simp[AL,RF,RG,I2,KE]at q hcb ih q2 q7 q12 z911
      simp[RF,RG,hc0,hc7,hlt,hw,qe,O0,ha0,hcc,q,hcb,ih,q1,q2,q7,q12,z910,z911,AL,IE,B8,DF,BO,GN,E7]
     |cons b bs=>
      have hbl:bs.length+1<=3:=by have:=congrArg bw hB;rw[bj]at this;omega
      have qo:=fun n=>L9 n b bs (by omega)
      have haL:=ha (bs.length+1) (by omega)
      rw[hB]at q hcb ih q1 z911
      simp[AL,RF,RG,I2,KE]at q hcb ih q2 q7 q12 z911 qo
      simp[RF,RG,hc0,hc7,hlt,hw,qo,haL,hcc,q,hcb,ih,q1,q2,q7,q12,z910,z911,AL,IE,B8,DF,BO,GN,E7]
  |some a=>
   by_cases hz:AN (BD c ((r:Int),(p:Int)))=sS
   ·have hsl2:KZ c (some a,sS) ((r:Int),(p:Int))=(some a,sS):=by unfold KZ;rw[if_pos (by simp[hz])]
    rw[hlast,hsl2];obtain⟨γ',T2,d',c2,fr,h1,h2,h3,f1,f2,f3,f4,f5,f6,f7,ih⟩:=YF c h0 hc h3 g7 r hr k (p+1) (some a,sS) (cc+1+1+1+1+1) [] (BD c ((r:Int),(p:Int))) g' (by omega) hs1 hs2 (by omega) (by omega) (by omega);refine⟨γ',T2,d',c2,fr,by omega,h2,h3,f1,f2,f3,f4,f5,f6,f7,fun n m hm=>?g⟩;case g=>
     obtain⟨m,rfl⟩:∃k',m=k'+1:=⟨m-1,by omega⟩
     have ih:=ih n m (by omega)
     generalize JQ c r k (p+1) (some a,sS)=FIN at *
     rw[AB]
     simp only[RH,bT,UN,BV]at q hcb ih z911|-
     simp only[hcw]at q hcb ih z911
     simp only[AE,BT]at q hcb ih q1 q2 q7 q12 z911|-
     rw[decide_eq_true hz]at hsm
     cases hB:c.beach.breaks with
     |nil=>
      rw[hB]at q hcb ih q1 z911
      simp[AL,RF,RG,I2,KE]at q hcb ih q2 q7 q12 z911
      simp[RF,RG,hlt,hw,qe,O0,ha0,hcc,q,hsm,ih,AL,encA,IE,B8,DF,BO,GN,E7]
     |cons b bs=>
      have hbl:bs.length+1<=3:=by have:=congrArg bw hB;rw[bj]at this;omega
      have qo:=fun n=>L9 n b bs (by omega)
      have haL:=ha (bs.length+1) (by omega)
      rw[hB]at q hcb ih q1 z911
      simp[AL,RF,RG,I2,KE]at q hcb ih q2 q7 q12 z911 qo
      simp[RF,RG,hlt,hw,qo,haL,hcc,q,hsm,ih,AL,encA,IE,B8,DF,BO,GN,E7]
   ·have hsl2:KZ c (some a,sS) ((r:Int),(p:Int))=(DS c (some a) ((r:Int),(p:Int)),AN (BD c ((r:Int),(p:Int)))):=by unfold KZ;rw[if_neg (by simp[hz])]
    rw[hlast,hsl2];cases hO:ED (BD c ((r:Int),(p:Int)))with
    |none=>
     have hst:DS c (some a) ((r:Int),(p:Int))=some a:=by unfold DS;rw[hO]
     rw[hst]
     obtain⟨γ',T2,d',c2,fr,h1,h2,h3,f1,f2,f3,f4,f5,f6,f7,ih⟩:=YF c h0 hc h3 g7 r hr k (p+1) (some a,AN (BD c ((r:Int),(p:Int)))) (cc+1+1+1+1+1) T' (BD c ((r:Int),(p:Int))) (c'+1) (by omega) hsl hsk (by omega) (by omega) (by omega)
     refine⟨γ',T2,d',c2,fr,by omega,h2,h3,f1,f2,f3,f4,f5,f6,f7,fun n m hm=>?g⟩
     case g=>
      obtain⟨m,rfl⟩:∃k',m=k'+1:=⟨m-1,by omega⟩
      have ih:=ih n m (by omega)
      generalize JQ c r k (p+1) (some a,AN (BD c ((r:Int),(p:Int))))=FIN at *
      rw[AB]
      simp only[RH,bT,UN,BV]at q hcb ih z911|-
      simp only[hcw]at q hcb ih z911
      simp only[AE,BT]at q hcb ih q1 q2 q7 q12 z911|-
      rw[hO]at hcb
      rw[decide_eq_false hz]at hsm
      cases hB:c.beach.breaks with
      |nil=>
       rw[hB]at q hcb ih q1 z911
       simp[AL,RF,RG,I2,KE]at q hcb ih q2 q7 q12 z911
       simp[RF,RG,hlt,hw,qe,O0,ha0,hcc,q,hcb,hsm,ih,q1,q2,q7,q12,z910,z911,AL,encA,IE,B8,DF,BO,GN,E7]
      |cons b bs=>
       have hbl:bs.length+1<=3:=by have:=congrArg bw hB;rw[bj]at this;omega
       have qo:=fun n=>L9 n b bs (by omega)
       have haL:=ha (bs.length+1) (by omega)
       rw[hB]at q hcb ih q1 z911
       simp[AL,RF,RG,I2,KE]at q hcb ih q2 q7 q12 z911 qo
       simp[RF,RG,hlt,hw,qo,haL,hcc,q,hcb,hsm,ih,q1,q2,q7,q12,z910,z911,AL,encA,IE,B8,DF,BO,GN,E7]
    |some q0=>
     by_cases hlt2:a.2.sun<q0.2.sun
     ·have hst:DS c (some a) ((r:Int),(p:Int))=some (((r:Int),(p:Int)),q0.2):=by unfold DS;rw[hO];exact if_pos hlt2
      rw[hst];obtain⟨γ',T2,d',c2,fr,h1,h2,h3,f1,f2,f3,f4,f5,f6,f7,ih⟩:=YF c h0 hc h3 g7 r hr k (p+1) (some (((r:Int),(p:Int)),q0.2),AN (BD c ((r:Int),(p:Int)))) (cc+1+1+1+1+1) T' (BD c ((r:Int),(p:Int))) (c'+1) (by omega) hsl hsk (by omega) (by omega) (by omega);refine⟨γ',T2,d',c2,fr,by omega,h2,h3,f1,f2,f3,f4,f5,f6,f7,fun n m hm=>?g⟩;case g=>
       obtain⟨m,rfl⟩:∃k',m=k'+1:=⟨m-1,by omega⟩
       have ih:=ih n m (by omega)
       generalize JQ c r k (p+1) (some (((r:Int),(p:Int)),q0.2),AN (BD c ((r:Int),(p:Int))))=FIN at *
       rw[AB]
       simp only[RH,bT,UN,BV]at q hcb ih z911|-
       simp only[hcw]at q hcb ih z911
       simp only[AE,BT]at q hcb ih q1 q2 q7 q12 z911|-
       rw[hO]at hcb
       rw[decide_eq_false hz]at hsm
       cases hB:c.beach.breaks with
       |nil=>
        rw[hB]at q hcb ih q1 z911
        simp[AL,RF,RG,I2,KE]at q hcb ih q2 q7 q12 z911
        simp[RF,RG,hc0,hc7,hlt2,hlt,hw,qe,O0,ha0,hcc,q,hcb,hsm,ih,q1,q2,q7,q12,z910,z911,AL,encA,IE,B8,DF,BO,GN,E7]
       |cons b bs=>
        have hbl:bs.length+1<=3:=by have:=congrArg bw hB;rw[bj]at this;omega
        have qo:=fun n=>L9 n b bs (by omega)
        have haL:=ha (bs.length+1) (by omega)
        rw[hB]at q hcb ih q1 z911
        simp[AL,RF,RG,I2,KE]at q hcb ih q2 q7 q12 z911 qo
        simp[RF,RG,hc0,hc7,hlt2,hlt,hw,qo,haL,hcc,q,hcb,hsm,ih,q1,q2,q7,q12,z910,z911,AL,encA,IE,B8,DF,BO,GN,E7]
     ·have hst:DS c (some a) ((r:Int),(p:Int))=some a:=by unfold DS;rw[hO];exact if_neg hlt2
      rw[hst];obtain⟨γ',T2,d',c2,fr,h1,h2,h3,f1,f2,f3,f4,f5,f6,f7,ih⟩:=YF c h0 hc h3 g7 r hr k (p+1) (some a,AN (BD c ((r:Int),(p:Int)))) (cc+1+1+1+1+1) T' (BD c ((r:Int),(p:Int))) (c'+1) (by omega) hsl hsk (by omega) (by omega) (by omega);refine⟨γ',T2,d',c2,fr,by omega,h2,h3,f1,f2,f3,f4,f5,f6,f7,fun n m hm=>?g⟩;case g=>
       obtain⟨m,rfl⟩:∃k',m=k'+1:=⟨m-1,by omega⟩
       have ih:=ih n m (by omega)
       generalize JQ c r k (p+1) (some a,AN (BD c ((r:Int),(p:Int))))=FIN at *
       rw[AB]
       simp only[RH,bT,UN,BV]at q hcb ih z911|-
       simp only[hcw]at q hcb ih z911
       simp only[AE,BT]at q hcb ih q1 q2 q7 q12 z911|-
       rw[hO]at hcb
       rw[decide_eq_false hz]at hsm
       cases hB:c.beach.breaks with
       |nil=>
        rw[hB]at q hcb ih q1 z911
        simp[AL,RF,RG,I2,KE]at q hcb ih q2 q7 q12 z911
        simp[RF,RG,hlt2,hlt,hw,qe,O0,ha0,hcc,q,hcb,hsm,ih,q1,q2,q7,q12,z910,z911,AL,encA,IE,B8,DF,BO,GN,E7]
       |cons b bs=>
        have hbl:bs.length+1<=3:=by have:=congrArg bw hB;rw[bj]at this;omega
        have qo:=fun n=>L9 n b bs (by omega)
        have haL:=ha (bs.length+1) (by omega)
        rw[hB]at q hcb ih q1 z911
        simp[AL,RF,RG,I2,KE]at q hcb ih q2 q7 q12 z911 qo
        simp[RF,RG,hlt2,hlt,hw,qo,haL,hcc,q,hcb,hsm,ih,q1,q2,q7,q12,z910,z911,AL,encA,IE,B8,DF,BO,GN,E7]
theorem ALW(c:AP)(h0:CZ c=0)(hc:BZ c)(h3:c.beach.breaks.length<=3)(g7:Nat):∀(k r:Nat) (st:OZ×List (List Int)) (γ:Nat) (T:List (Sp×BJ)) (d:AP) (cc:Nat),r+k=c.beach.rows.toNat->st.2.length=c.beach.rows.toNat->(∀l∈st.2,l.length=5/\∀x∈l,GQ x)->g7<cc->1<cc->γ+1<cc ->
  ∃(γ':Nat) (T':List (Sp×BJ)) (d':AP) (c':Nat) (fr:Fr),cc<=c'/\BL fr 2=some (true,.ptr 0 2 1 0)/\BL fr 6=some (true,.bool (UK c k r st).1.isSome)/\BL fr 7=some (true,.ptr 0 7 g7 0)/\∀n m,k<m ->
   BM (AF bb ann kn (n+9500) 110) SR (ann 110 (CG SR)) m ⟨cc,[(1,true,.ptr 0 1 0 0),(2,true,.ptr 0 2 1 0),(6,true,.bool st.1.isSome),(7,true,.ptr 0 7 g7 0),(8,true,.list false (st.2.map encA)),(41,true,i c.beach.rows),(42,true,i r)],⟨[],RH c g7 st.1 γ T d⟩⟩ =
    some (.exit 1,⟨c',fr,⟨[],RH c g7 (UK c k r st).1 γ' T' d'⟩⟩)
 |0,r,st,γ,T,d,cc,hd,hs1,hs2,h7,h1,hγ=>by
  have hro:=hc.be.ro;have hnot:¬((r:Int)<c.beach.rows):=by omega
  refine⟨γ,T,d,cc,?fr,Nat.le_refl _,?g2,?g3,?g4,fun n m hm=>?g⟩;case g=>
   obtain⟨m,rfl⟩:∃k',m=k'+1:=⟨m-1,by omega⟩
   simp[AB,hnot,RH,UK]
   rfl
  all_goals simp[UK]
 |k+1,r,st,γ,T,d,cc,hd,hs1,hs2,h7,h1,hγ=>by
  have hro:=hc.be.ro;have hlt:(r:Int)<c.beach.rows:=by omega
  have hw:=B7 (k:=r) (by omega);obtain⟨γ1,T1,d1,c1,fr1,g1,g2,⟨g3,g4⟩,a1,a2,a6,a7,a8,a41,a42,q⟩:=YF c h0 hc h3 g7 r hlt c.beach.places.toNat 0 st γ T d cc (by omega) hs1 hs2 h7 h1 hγ;obtain⟨γ',T',d',c',fr,b1,b2,b6,b7,ih⟩:=ALW c h0 hc h3 g7 k (r+1) (JQ c r c.beach.places.toNat 0 st) γ1 T1 d1 c1 (by omega) g3 g4 (by omega) (by omega) g2;refine⟨γ',T',d',c',fr,by omega,b2,b6,b7,fun n m hm=>?_⟩;obtain⟨m,rfl⟩:∃k',m=k'+1:=⟨m-1,by omega⟩;have ih:=ih n m (by omega);have q:=q (n+92) (n+9492) (by have:=hc.be.pl;omega);rw[show n+92+9400=n+9492 by omega]at q;have hfin:UK c (k+1) r st=UK c k (r+1) (JQ c r c.beach.places.toNat 0 st):=rfl;rw[hfin];generalize UK c k (r+1) (JQ c r c.beach.places.toNat 0 st)=FIN at *;generalize JQ c r c.beach.places.toNat 0 st=MID at *;rw[AB];simp only[RH,AE]at q ih|-;simp[AL]at q ih;simp[hlt,hw,q,ih,a1,a2,a6,a7,a8,a41,a42,AL]
set_option maxHeartbeats 2000000 in
theorem AHC(n:Nat)(c:AP)(h40:∀l∈c.beach.winds,l.length<=40)(hch:c.chairs.length<=40):A3 bb kn (AF bb ann kn (n+9700)) 46 [.agg (AE c)]=some (.tup [.agg (AL (YB c).1),i (YB c).2.1,i (YB c).2.2]):=by
 rw[AQ rfl,AR Tryz.func46 b46 rfl (by simp[AE,AS,BU,AU])];unfold YB;have hsB:∀t:St,1<=t.up.length->AH t [(1,0,.box (AE c)),(2,1,.box [i 0,i 0])]=[(1,0,.box (AE c)),(2,1,.box [i 0,i 0])]:=fun t _=>by simp[AE]
 by_cases h:CZ c=0
 ·rw[if_neg (by simp[h])];have hc:=GR h;obtain⟨g',hg,q⟩:=XB c hc [(1,0,.box (AE c)),(2,1,.box [i 0,i 0])] hsB 2 20 [(19,true,.agg (AE c)),(1,true,.ptr 0 1 0 0),(2,true,.ptr 0 2 1 0)];have q:=fun n=>q (n+1690);have hg1:1<g':=by omega
  by_cases h4:4<=c.beach.breaks.length
  ·rw[if_pos h4];have h4:(4:Int)<=(c.beach.breaks.length:Int):=by omega
   simp only[BV,AE]at q|-;simp[c46,AD,AL,q,h4,hg1];done
  ·rw[if_neg h4];have hsl:(AN c).length=c.beach.rows.toNat:=K6;have hsk:∀l∈AN c,l.length=5/\∀x∈l,GQ x:=fun l hl=>⟨(K5 hc l hl).1,fun x hm=>by have:=(K5 hc l hl).2 x hm;constructor<;>omega⟩;obtain⟨γ',T',d',c',fr,b1,b2,b6,b7,ql⟩:=ALW c h hc (by omega) g' c.beach.rows.toNat 0 (none,AN c) 3 [] c (g'+1) (by omega) hsl hsk (by omega) (by omega) (by omega);have ql:=ql (n+190) (n+9690) (by have:=hc.be.ro;omega);rw[show n+190+9500=n+9690 by omega]at ql;have hc1:1<c':=by omega
   have h4:¬(4:Int)<=(c.beach.breaks.length:Int):=by omega
   have hbo:YA c=(UK c c.beach.rows.toNat 0 (none,AN c)).1:=rfl;rw[hbo];generalize UK c c.beach.rows.toNat 0 (none,AN c)=FIN at *;obtain⟨fa,fs⟩:=FIN;simp only[RH,BV,AE,BT]at q ql|-;simp[AL,RF,RG]at ql;cases fa with
   |none=>
    simp at b6 ql
    simp[c46,AD,AL,q,h4,ql,b2,b6,b7,hc1]
    done
   |some a=>
    simp at b6 ql
    simp[c46,AD,AL,q,h4,ql,b2,b6,b7,hc1,IE,B8,DF,GN,E7]
    done
 ·rw[if_pos h];have q:=QM c h40 hch h [(1,0,.box (AE c)),(2,1,.box [i 0,i 0])] hsB 2 20 [(19,true,.agg (AE c)),(1,true,.ptr 0 1 0 0),(2,true,.ptr 0 2 1 0)];have q:=fun n=>q (n+1690);generalize CZ c=E at *;simp only[AE]at q|-;simp[c46,AD,AL,q,h];done
end Go.Proofs.Tryz.Op
