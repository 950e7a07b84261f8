/- The truths of a beach, gone through by one that stands a level higher. No condition. -/
import Derived.Test.YtanlhbmliegjeaaGreatN1
open List renaming cons_append->bj,replicate->bk,map_cons->bq,drop_eq_getElem_cons->bw
set_option maxRecDepth 100000
set_option linter.unusedSimpArgs false
open Go Go.Pg Go.Proofs Go.Wind
namespace Go.Proofs.Tryz.Op
@[simp] theorem AQL(l k f a b c d:Nat)(o:Option (Nat×AX))(h:¬a=l):BA l k o f (.vec a b c d)=.vec a b c d:=by
 cases f with
 |zero=>rfl
 |succ f=>
  simp only[BA]
  split
  ·rw[if_neg fun e=>h e.1]
  ·rfl
def QL(rs:List AA):Prop:=∀t:St,rs.length+2<=t.up.length->rs.map (AJ t)=rs
structure Lt1(b:AL)(out:List Int)(γ0 g3 g4 g5 g9:Nat)(t:List Int)(L:AA):Prop where
 p3:L.get 3=some (g3,.box [.yld 1 BJ γ0])
 p4:L.get 4=some (g4,.box [.vec 2 9 g9 b.winds.length])
 p5:L.get 5=some (g5,.box [.fn 85 [] [.ptr 2 4 g4 0,.ref (AB b),.ref [li out],.ptr 2 3 g3 0,.ptr 2 5 g5 0]])
 p9:L.get 9=some (g9,.vec 3 (t.map AH))
 st:∀s:St,3<=s.up.length->AJ s L=L
 b9:g9<γ0+4
 p63:L.get 63=none
theorem VG{rs:List AA}{loc:AA}(h:QL rs)(hl:∀t:St,rs.length+2<=t.up.length->AJ t loc=loc):QL (rs++[loc]):=by
 intro t ht;have ht':rs.length+1+2<=t.up.length:=by simpa using ht
 simp only[List.map_append,bq,List.map_nil];rw[h t (by omega),hl t (by omega)]
theorem YS{L1 L2:AA}{rs:List AA}(h:QL (L1::rs))(h2:∀t:St,3<=t.up.length->AJ t L2=L2):QL (L2::rs):=by intro t ht;have:=h t ht;simp only[bq,List.cons.injEq]at this|-;exact⟨h2 t (by simp at ht;omega),this.2⟩
theorem Lt1.set{b:AL}{out:List Int}{γ0 g3 g4 g5 g9:Nat}{t:List Int}{L:AA}(h:Lt1 b out γ0 g3 g4 g5 g9 t L){k:Nat}(x:Int):Lt1 b out γ0 g3 g4 g5 g9 (t.set k x) ((9,g9,.vec 3 ((t.map AH).set k (AH x)))::L) where
 p3:=by simpa using h.p3
 p4:=by simpa using h.p4
 p5:=by simpa using h.p5
 p9:=by simp[List.map_set]
 st:=by intro s hs;rw[A6,h.st s hs,<-ACP,O7]
 b9:=h.b9
 p63:=by simpa using h.p63
def fT{α:Type}(B:AA)(b:AL)(Lv:Nat->Bool->α->AA->Prop)(step:α->List Int->α×Bool)(γ0 N0:Nat):Prop :=
 ∀(a:α) (L L1:AA) (rest:List AA) (loc:AA) (c:Nat) (fr:Fr) (t:List Int) (g9:Nat),Lv c true a L->γ0+1<c->AV t b.winds=true->L1.get 9=some (g9,.vec 3 (t.map AH))->QL (L1::(rest++[loc])) ->
  ∃L' c',Lv c' (step a t).2 (step a t).1 L'/\c<=c'/\∀n,aC (AE Tryz.prog ann kn (n+N0)) 1 BJ γ0 [.vec 2 9 g9 b.winds.length] ⟨c,fr,⟨B::L::L1::rest,loc⟩⟩=some (.bool (step a t).2,⟨c',fr,⟨B::L'::L1::rest,loc⟩⟩)
section
variable {α:Type}{B:AA}{b:AL}{out:List Int}{Lv:Nat->Bool->α->AA->Prop}{step:α->List Int->α×Bool}{γ0 N0:Nat}
def AMO(B:AA)(b:AL)(out:List Int)(Lv:Nat->Bool->α->AA->Prop)(step:α->List Int->α×Bool)(γ0 g3 g4 g5 g9 M k:Nat)(ws:List (List Int)):Prop :=
 ∀(p:List Int),p.length=k->AV p (b.winds.take k)=true->∀(a:α) (L L1:AA) (rs:List AA) (c dd:Nat) (fr:Fr) (t:List Int),Lv c true a L->Lt1 b out γ0 g3 g4 g5 g9 t L1->QL (L1::rs)->γ0+4<c->t.length=b.winds.length->t.take k=p ->
  ∃L' L1' c' t',Lv c' (runG step a (EU b out ws p)).2 (runG step a (EU b out ws p)).1 L'/\Lt1 b out γ0 g3 g4 g5 g9 t' L1'/\c<=c'/\t'.length=b.winds.length/\t'.take k=p /\
   ∀n,iL Tryz.prog (some dd) fr Tryz.f85.results.toList (AE Tryz.prog ann kn (n+M) 44 c85 ⟨c,AD 0 [i k,.ptr 2 4 g4 0,.ref (AB b),.ref [li out],.ptr 2 3 g3 0,.ptr 2 5 g5 0],⟨B::L::L1::rs,[]⟩⟩)=bF (some dd) fr c' (.bool (runG step a (EU b out ws p)).2) (CM (B::L'::L1'::rs))
theorem A1Z(hB:∀t:St,1<=t.up.length->AJ t B=B)(hmo:∀c c1 g a L,c<=c1->Lv c g a L->Lv c1 g a L)(hlv:∀c g a L,Lv c g a L->∀t:St,2<=t.up.length->t.loc.get 63=none->AJ t L=L)(g3 g4 g5 g9 W k:Nat)(hkl:k<b.winds.length)(h5:b.winds.length<=100)(ws:List (List Int))(p:List Int)(hp:p.length=k)(hpl:AV p (b.winds.take k)=true)
  (hrec:AMO B b out Lv step γ0 g3 g4 g5 g9 (W+2000) (k+1) ws) (rs:List AA) (xs:List Int) (hxs:xs=b.winds[k]) (hlen:xs.length<=100) :
  ∀(e j:Nat) (a:α) (L L1:AA) (c:Nat) (t:List Int),j+e=xs.length->Lv c true a L->Lt1 b out γ0 g3 g4 g5 g9 t L1->QL (L1::rs)->γ0+4<c->t.length=b.winds.length->t.take k=p ->
  ∃(fr0:Fr) (L' L1':AA) (c':Nat) (t':List Int),Lv c' (runG step a ((xs.drop j).flatMap fun x=>EU b out ws (p++[x]))).2 (runG step a ((xs.drop j).flatMap fun x=>EU b out ws (p++[x]))).1 L'/\Lt1 b out γ0 g3 g4 g5 g9 t' L1'/\c<=c'/\t'.length=b.winds.length/\t'.take k=p /\
   ∀n m,e<m->BG (AE Tryz.prog ann kn (n+W+2054) 44) XK (ann 44 (BX XK)) m ⟨c,[(0,true,i k),(1,true,.ptr 2 4 g4 0),(5,true,.ptr 2 5 g5 0),(28,true,li xs),(29,true,i xs.length),(30,true,i j)],⟨B::L::L1::rs,[]⟩⟩ =
    if (runG step a ((xs.drop j).flatMap fun x=>EU b out ws (p++[x]))).2=true then some (.exit 0,⟨c',fr0,⟨B::L'::L1'::rs,[]⟩⟩) else some (.ret,⟨c',[(7,true,.bool false)],⟨B::L'::L1'::rs,[]⟩⟩)
 |0,j,a,L,L1,c,t,hd,hL,hL1,hst,hc,htl,htk=>by
  have:j=xs.length:=by omega
  subst this;refine⟨?fr,L,L1,c,t,by simpa [runG]using hL,hL1,by omega,htl,htk,fun n m hm=>?g⟩;case g=>
   obtain⟨m,rfl⟩:=qNz m (by omega)
   rw[List.drop_length,AC]
   simp[runG]
   rfl
 |e+1,j,a,L,L1,c,t,hd,hL,hL1,hst,hc,htl,htk=>by
  have hL1o:=hL1;obtain⟨p3,p4,p5,p9,pst,b9,p63⟩:=hL1;have hj:j<xs.length:=by omega
  have hw:=BS (k:=j) (by omega);have hwk:=BS (k:=k) (by omega);have hxm:xs[j]∈b.winds[k]:=by rw[<-hxs];exact List.getElem_mem hj
  have hg9:g9<c:=by omega
  have hL1':=Lt1.set hL1o (k:=k) xs[j];obtain⟨L2,L3,c2,t2,r1,r2,r3,r4,r5,r6⟩:=hrec (p++[xs[j]]) (by simp[hp]) (kR hpl hkl hxm) a L _ (rs++[[]]) c 41 [(40,true,i ((k:Int)+1)),(39,true,i k),(38,true,.fn 85 [] [.ptr 2 4 g4 0,.ref (AB b),.ref [li out],.ptr 2 3 g3 0,.ptr 2 5 g5 0]),
   (0,true,i k),(1,true,.ptr 2 4 g4 0),(5,true,.ptr 2 5 g5 0),(28,true,li xs),(29,true,i xs.length),(30,true,i j)] (t.set k xs[j]) hL hL1' (by have:=VG (loc:=[]) (YS hst hL1'.st) (fun _ _=>rfl); rwa [bj]at this) (by omega) (by simpa using htl) (ACQ htk (by omega))
  have hca:=fun n=>A3 (A:=ann) (kn:=kn) (n:=n+W+2046) Tryz.func85 b85 rfl (args:=[i ((k:Int)+1),.ptr 2 4 g4 0,.ref (AB b),.ref [li out],.ptr 2 3 g3 0,.ptr 2 5 g5 0]) (by simp) (some 41) c [(40,true,i ((k:Int)+1)),(39,true,i k),(38,true,.fn 85 [] [.ptr 2 4 g4 0,.ref (AB b),.ref [li out],.ptr 2 3 g3 0,.ptr 2 5 g5 0]),
   (0,true,i k),(1,true,.ptr 2 4 g4 0),(5,true,.ptr 2 5 g5 0),(28,true,li xs),(29,true,i xs.length),(30,true,i j)] (B :: L :: ((9,g9,.vec 3 ((t.map AH).set k (AH xs[j]))) :: L1) :: rs) []
  have r6':=fun n=>r6 (n+46);have e46:∀n,n+46+(W+2000)=n+W+2046:=fun n=>by omega
  simp only[e46]at r6';have hcb:=fun n=>by have h1:=hca n;rw[bj,bj,bj]at h1;exact h1.trans ((r6' n).trans (by rw[<-bj,<-bj,<-bj,C9]))
  have hfl:(xs.drop j).flatMap (fun x=>EU b out ws (p++[x]))=EU b out ws (p++[xs[j]])++(xs.drop (j+1)).flatMap (fun x=>EU b out ws (p++[x])):=by rw[bw hj,List.flatMap_cons]
  cases hgo:(runG step a (EU b out ws (p++[xs[j]]))).2 with
  |true=>
   obtain⟨fr0,L',L1',c',t',i1,i2,i3,i4,i5,ih⟩:=A1Z hB hmo hlv g3 g4 g5 g9 W k hkl h5 ws p hp hpl hrec rs xs hxs hlen e (j+1) (runG step a (EU b out ws (p++[xs[j]]))).1 L2 L3 c2 t2 (by omega) (by rwa [hgo]at r1) r2 (YS hst r2.st) (by omega) r4 (dH r5 hp)
   rw[hfl,IZ,if_pos hgo]
   refine⟨fr0,L',L1',c',t',i1,i2,by omega,i4,i5,fun n m hm=>?_⟩
   obtain⟨m,rfl⟩:=qNz m (by omega)
   have ih:=ih n m (by omega)
   have hcb:=hcb n
   rw[hgo]at hcb
   generalize (runG step (runG step a (EU b out ws (p++[xs[j]]))).1 ((xs.drop (j+1)).flatMap fun x=>EU b out ws (p++[x]))).2=z at ih|-
   rw[AC]
   simp only[AB,AH]at hcb p5 ih|-
   simp at hcb ih
   simp[hj,hw,hwk,AH,p3,p4,p5,p9,htl,hkl,hg9,DB,hcb,ih]
  |false=>
   rw[hfl,IZ,if_neg (by simp[hgo])]
   refine⟨[],L2,L3,c2,t2,r1,r2,by omega,r4,dH r5 hp,fun n m hm=>?_⟩
   obtain⟨m,rfl⟩:=qNz m (by omega)
   have hcb:=hcb n
   rw[hgo]at hcb
   rw[if_neg (by simp[hgo]),AC]
   simp only[AB,AH]at hcb p5|-
   simp at hcb
   simp[hj,hw,hwk,AH,p3,p4,p5,p9,htl,hkl,hg9,DB,hcb]
theorem A10(hb:Valid b)(hout:out.length<=100)(hB:∀t:St,1<=t.up.length->AJ t B=B)(hmo:∀c c1 g a L,c<=c1->Lv c g a L->Lv c1 g a L)(hlv:∀c g a L,Lv c g a L->∀t:St,2<=t.up.length->t.loc.get 63=none->AJ t L=L)(hs:fT B b Lv step γ0 N0)(g3 g4 g5 g9:Nat):∀(ws:List (List Int)) (k:Nat),b.winds.drop k=ws->k<=b.winds.length->AMO B b out Lv step γ0 g3 g4 g5 g9 (N0+60*ws.length+2000) k ws
 |[],k,hw,hk=>by
  intro p hp hpl a L L1 rs c dd fr t hL hL1 hst hc htl htk;have hL1o:=hL1;obtain⟨p3,p4,p5,p9,pst,b9,p63⟩:=hL1;have hkn:k=b.winds.length:=by have:=congrArg List.length hw;simp at this;omega
  have he:p=t:=by rw[<-htk,List.take_of_length_le (by omega)]
  subst he;have hlis:AV p b.winds=true:=by rwa [hkn,List.take_length]at hpl
  have q68:=fun n=>AUF n b p out (Valid.notes' hb htl) (by have:=hb.no;omega) hout;have hki:decide ((k:Int)=(b.winds.length:Int))=true:=by simp;omega
  have hrs:∀t:St,rs.length+3<=t.up.length->rs.map (AJ t)=rs:=fun t h=>by have:=hst t (by simpa using h);simp only[bq,List.cons.injEq]at this;exact this.2
  simp only[EU];cases hr:HU p out b.notes 0 with
  |false=>
   rw[hr]at q68
   refine⟨L,L1,c,p,by simpa [runG]using hL,hL1o,by omega,htl,htk,fun n=>?_⟩
   simp only[AB]at q68|-
   have hl1:AJ ⟨B::L::L1::rs,[]⟩ L=L:=hlv _ _ _ _ hL _ (by simp) rfl
   simp[c85,AD,AH,AN,AM,p3,p4,p5,p9,htl,hki,q68,hl1,hB,pst,hrs,<-Nat.add_assoc,runG]
  |true=>
   rw[hr]at q68
   obtain⟨L',c',s1,s2,s3⟩:=hs a L L1 rs [] c [(21,true,V.vec 2 9 g9 b.winds.length),(20,true,V.yld 1 BJ γ0),(19,true,.bool false),(18,true,.bool false),(17,true,.bool true),(16,true,li out),(15,true,V.vec 2 9 g9 b.winds.length),(14,true,.agg (AB b)),(1,true,.ptr 2 4 g4 0),(2,true,.ref (AB b)),(3,true,.ref [li out]),(4,true,.ptr 2 3 g3 0)] p g9 hL (by omega) hlis p9 (VG hst (fun _ _=>rfl))
   have hrun:runG step a [p]=step a p:=by
    simp only[runG];split
    ·rename_i h;rw[<-h]
    ·rename_i h;rw[<-eq_false_of_ne_true h]
   rw[if_pos rfl,hrun]
   refine⟨L',L1,c',p,s1,hL1o,by omega,htl,htk,fun n=>?_⟩
   have hl2:AJ ⟨B::L'::L1::rs,[]⟩ L'=L':=hlv _ _ _ _ s1 _ (by simp) rfl
   have s4:=fun n=>s3 (n+1994)
   simp only[Nat.add_right_comm _ 1994 N0]at s4
   have hcy:∀E:XE,(cfU [20009,30009] E).cy=E.cy:=fun _=>rfl
   simp only[AB]at q68 s4|-
   simp[hcy,s4,hl2,Nat.mul_zero,c85,AD,AH,AN,AM,p3,p4,p5,p9,htl,hki,q68,hB,pst,hrs,<-Nat.add_assoc,runG]
 |l::ws,k,hw,hk=>by
  intro p hp hpl a L L1 rs c dd fr t hL hL1 hst hc htl htk;have hL1o:=hL1;obtain⟨p3,p4,p5,p9,pst,b9,p63⟩:=hL1;have hkl:k<b.winds.length:=by have:=congrArg List.length hw;simp at this;omega
  rw[bw hkl]at hw;cases hw;have h5:=hb.hl;have hx4:=hb.wl _ (List.getElem_mem hkl);have hki:decide ((k:Int)=(b.winds.length:Int))=false:=by simp;omega
  have hrs:∀t:St,rs.length+3<=t.up.length->rs.map (AJ t)=rs:=fun t h=>by have:=hst t (by simpa using h);simp only[bq,List.cons.injEq]at this;exact this.2
  obtain⟨fr0,L',L1',c',t',i1,i2,i3,i4,i5,i6⟩:=A1Z hB hmo hlv g3 g4 g5 g9 (N0+60*(b.winds.drop (k+1)).length) k hkl (by omega) (b.winds.drop (k+1)) p hp hpl (A10 hb hout hB hmo hlv hs g3 g4 g5 g9 (b.winds.drop (k+1)) (k+1) rfl (by omega)) rs _ rfl (by omega) (b.winds[k]).length 0 a L L1 c t (by omega) hL hL1o hst hc htl htk;rw[List.drop_zero]at i1 i6;refine⟨L',L1',c',t',by simpa [EU]using i1,i2,by omega,i4,i5,fun n=>?_⟩;have hl2:AJ ⟨B::L'::L1'::rs,[]⟩ L'=L':=hlv _ _ _ _ i1 _ (by simp) rfl;have pst2:=i2.st;have hlen:(b.winds[k]::b.winds.drop (k+1)).length=(b.winds.drop (k+1)).length+1:=rfl;rw[hlen,show n+(N0+60*((b.winds.drop (k+1)).length+1)+2000)=n+(N0+60*(b.winds.drop (k+1)).length)+2060 by omega];have i6:=i6 n (n+(N0+60*(b.winds.drop (k+1)).length)+2054) (by omega);simp only[EU];generalize n+(N0+60*(b.winds.drop (k+1)).length)=n2 at i6|-;generalize (runG step a (b.winds[k].flatMap fun x=>EU b out (b.winds.drop (k+1)) (p++[x]))).2=z at i6|-;simp only[AB]at i6|-;cases z<;>(simp at i6;simp[c85,AD,AH,AN,AM,p3,p4,p5,p9,htl,hki,hkl,pst2,hl2,hB,hrs,i6])
end
section
variable {α:Type}{B:AA}{b:AL}{out:List Int}{Lv:Nat->Bool->α->AA->Prop}{step:α->List Int->α×Bool}{γ0 N0:Nat}
theorem kT(hb:Valid b)(hout:out.length<=100)(hB:∀t:St,1<=t.up.length->AJ t B=B)(hmo:∀c c1 g a L,c<=c1->Lv c g a L->Lv c1 g a L)(hlv:∀c g a L,Lv c g a L->∀t:St,2<=t.up.length->t.loc.get 63=none->AJ t L=L)(hs:fT B b Lv step γ0 N0)(a:α)(L:AA)(hL:Lv (γ0+1) true a L)(fr:Fr) :
  ∃L' c',Lv c' (runG step a (EU b out b.winds [])).2 (runG step a (EU b out b.winds [])).1 L'/\γ0+1<=c'/\∀n,GH (BH Tryz.prog ann kn (n+N0+3000)) none ⟨γ0+1,fr,⟨[B],L⟩⟩ 84 [.yld 1 BJ γ0,.ref (AB b),.ref [li out]]=some ⟨c',fr,⟨[B],L'⟩⟩:=by
 have h5:=hb.hl
 have hla:=hb.la
 have hwi:=hb.wi
 let L1:AA:=[(3,γ0+1,.box [.yld 1 BJ γ0]),(4,γ0+3,.box [.vec 2 9 (γ0+2) b.winds.length]),
  (5,γ0+4,.box [.fn 85 [] [.ptr 2 4 (γ0+3) 0,.ref (AB b),.ref [li out],.ptr 2 3 (γ0+1) 0,.ptr 2 5 (γ0+4) 0]]),
  (9,γ0+2,.vec 3 ((bk b.winds.length 0).map AH))]
 have hL1:Lt1 b out γ0 (γ0+1) (γ0+3) (γ0+4) (γ0+2) (bk b.winds.length 0) L1:=by
  refine⟨rfl,rfl,rfl,rfl,fun t ht=>?_,by omega,rfl⟩;have e0:¬0=t.up.length:=by omega
  have e1:¬1=t.up.length:=by omega
  have e2:¬2=t.up.length:=by omega
  obtain⟨up,loc⟩:=t;simp only at e0 e1 e2;simp only[L1,A6,E5,O7];simp[e0,e1,e2,AB,AH,AN,AM]
 obtain⟨L',L1',c',t',r1,r2,r3,r4,r5,r6⟩:=A10 hb hout hB hmo hlv hs (γ0+1) (γ0+3) (γ0+4) (γ0+2) b.winds 0 rfl (by omega) [] rfl rfl a L L1 [] (γ0+5) 12 [(11,true,.fn 85 [] [.ptr 2 4 (γ0+3) 0,.ref (AB b),.ref [li out],.ptr 2 3 (γ0+1) 0,.ptr 2 5 (γ0+4) 0]),(5,true,.ptr 2 5 (γ0+4) 0)]
  (bk b.winds.length 0) (hmo _ _ _ _ _ (by omega) hL) hL1 (by intro t ht;simp only[bq,List.map_nil,hL1.st t (by simpa using ht)]) (by omega) (by simp) (by simp)
 refine⟨L',c',r1,by omega,fun n=>?_⟩
 have hl2:AJ ⟨[B,L'],L1'⟩ L'=L':=hlv _ _ _ _ r1 _ (by simp) r2.p63
 rw[A3 Tryz.func84 b84 rfl (by simp)]
 have hw:IntKind.i64.wrap (b.last+1)=(b.winds.length:Int):=by rw[AW (by omega) (by omega)];omega
 have m1:b.winds.length*8<=140737488355328:=by omega
 have m2:b.winds.length<=maxLen:=by unfold maxLen;omega
 have r6:=r6 (n+995-60*b.winds.length)
 have hca:=A3 (A:=ann) (kn:=kn) (n:=n+N0+2995) Tryz.func85 b85 rfl (args:=[i ((0:Nat):Int),.ptr 2 4 (γ0+3) 0,.ref (AB b),.ref [li out],.ptr 2 3 (γ0+1) 0,.ptr 2 5 (γ0+4) 0]) (by simp) (some 12) (γ0+5) [(11,true,.fn 85 [] [.ptr 2 4 (γ0+3) 0,.ref (AB b),.ref [li out],.ptr 2 3 (γ0+1) 0,.ptr 2 5 (γ0+4) 0]),(5,true,.ptr 2 5 (γ0+4) 0)] [B,L] L1
 rw[show n+995-60*b.winds.length+(N0+60*b.winds.length+2000)=n+N0+2995 by omega]at r6
 have hca:=hca.trans (r6.trans rfl)
 generalize n+N0=n2 at hca|-
 have z1:(bk b.winds.length (0:Int)).map AH=bk b.winds.length [V.int IntKind.i64 0]:=by simp[AH]
 simp only[L1,z1,AB]at hca|-
 simp at hca
 simp[c84,AD,hw,m1,m2,Nat.add_assoc,hca,hl2,hB]
end
end Go.Proofs.Tryz.Op
