/- The contract of same: are two lists of five numbers each alike? No condition but their lengths. -/
import Derived.Test.YthhdhbalenanjaaGreatC2
import Derived.Test.YthhdhbalenanjaaGreatY0
import Derived.Test.YthhdhbalenanjaaGreatA3
open Go.Proofs.Tryz renaming prog->bx
open List renaming length_cons->bj,drop_eq_getElem_cons->bk,length->bq,drop_eq_nil_of_le->bw
set_option maxRecDepth 100000
set_option linter.unusedSimpArgs false
open Go Go.Pg Go.Proofs Go.Wind
namespace Go.Proofs.Tryz.Op
theorem BEO(a1 a2 a3 a4 a5 b1 b2 b3 b4 b5:Int)(h1:FE a1)(h2:FE a2)(h3:FE a3)(h4:FE a4)(h5:FE a5)(g1:FE b1)(g2:FE b2)(g3:FE b3)(g4:FE b4)(g5:FE b5):NA bx 206 [i a1,i a2,i a3,i a4,i a5] [i b1,i b2,i b3,i b4,i b5]=some (decide (a1=b1)&&(decide (a2=b2)&&(decide (a3=b3)&&(decide (a4=b4)&&decide (a5=b5))))):=by
 have kl:∀a b c d e:Int,FE a->FE b->FE c->FE d->FE e->Program.keyLits bx 16 206 [.int .i64 a,.int .i64 b,.int .i64 c,.int .i64 d,.int .i64 e]=some [.int .i64 a,.int .i64 b,.int .i64 c,.int .i64 d,.int .i64 e]:=fun a b c d e ha hb hc hd he=>by unfold Program.keyLits;simp[Tryz.underlying206,show List.range 5=[0,1,2,3,4] from rfl,k3I (wfI ha),k3I (wfI hb),k3I (wfI hc),k3I (wfI hd),k3I (wfI he)]
 have kt:(tT bx 206&&Program.keyTypeAt bx 16 206&&!(bx.eqGuardType bx.depth 206))=true:=by kernel_rfl
 unfold NA;simp[DV,kl _ _ _ _ _ h1 h2 h3 h4 h5,kl _ _ _ _ _ g1 g2 g3 g4 g5];refine⟨⟨by simpa using kt,by simp[CK]⟩,?_⟩;simp only[JM,Bool.and_true];congr 1
theorem lSm(A B:List (List Int))(hl:A.length=B.length)(h5:∀l∈A,l.length=5/\∀x∈l,FE x)(g5:∀l∈B,l.length=5/\∀x∈l,FE x)(hb:A.length<=100)(cc:Nat):∀(d k:Nat),k+d=A.length->∃fr,∀n m,d<m ->
  A9 (AE bx ann kn (n+100) 21) aW (ann 21 (BV aW)) m ⟨cc,[(0,true,.list false (A.map encA)),(1,true,.list false (B.map encA)),(7,true,i A.length),(8,true,i k)],⟨[],[]⟩⟩ =
   if A.drop k=B.drop k then some (.exit 0,⟨cc,fr,⟨[],[]⟩⟩) else some (.ret,⟨cc,[(4,true,.bool false)],⟨[],[]⟩⟩)
 |0,k,hd=>by
  have hk:k=A.length:=by omega
  have hnot:¬k<A.length:=by omega
  refine⟨?fr,fun n m hm=>?g⟩;case g=>
   obtain⟨m,rfl⟩:=qNz m (by omega)
   rw[if_pos (by rw[bw (by omega),bw (by omega)])]
   simp[AB,hnot]
   rfl
 |d+1,k,hd=>by
  have hk:k<A.length:=by omega
  have hk2:k<B.length:=by omega
  have hw:=BH (k:=k) (by omega);obtain⟨fr,ih⟩:=lSm A B hl h5 g5 hb cc d (k+1) (by omega);refine⟨fr,fun n m hm=>?_⟩;obtain⟨m,rfl⟩:=qNz m (by omega);have ih:=ih n m (by omega);obtain⟨a1,a2⟩:=h5 A[k] (List.getElem_mem hk);obtain⟨b1,b2⟩:=g5 B[k] (List.getElem_mem hk2);rw[bk hk,bk hk2];generalize hva:A[k]=va at *;generalize hvb:B[k]=vb at *;match va,a1,a2,vb,b1,b2 with
  |[x1,x2,x3,x4,x5],_,a2,[y1,y2,y3,y4,y5],_,b2=>
   have hq:=BEO x1 x2 x3 x4 x5 y1 y2 y3 y4 y5 (a2 _ (by simp)) (a2 _ (by simp)) (a2 _ (by simp)) (a2 _ (by simp)) (a2 _ (by simp)) (b2 _ (by simp)) (b2 _ (by simp)) (b2 _ (by simp)) (b2 _ (by simp)) (b2 _ (by simp))
   rw[AB]
   by_cases e:[x1,x2,x3,x4,x5]=[y1,y2,y3,y4,y5]
   ·have hq2:(decide (x1=y1)&&(decide (x2=y2)&&(decide (x3=y3)&&(decide (x4=y4)&&decide (x5=y5)))))=true:=by simpa using e
    rw[hq2]at hq;have he:((([x1,x2,x3,x4,x5]:List Int)::A.drop (k+1)=[y1,y2,y3,y4,y5]::B.drop (k+1))↔A.drop (k+1)=B.drop (k+1)):=by rw[e];exact⟨fun h=>(List.cons.inj h).2,fun h=>by rw[h]⟩
    simp only[he];simp at ih;simp[hk,hk2,hw,hva,hvb,encA,hq,ih]
   ·have hq2:(decide (x1=y1)&&(decide (x2=y2)&&(decide (x3=y3)&&(decide (x4=y4)&&decide (x5=y5)))))=false:=by rw[Bool.eq_false_iff];intro hh;exact e (by simpa using hh)
    rw[hq2]at hq;rw[if_neg fun hh=>e (List.cons.inj hh).1];simp[hk,hk2,hva,hvb,encA,hq]
theorem A3C(n:Nat)(A B:List (List Int))(hl:A.length=B.length)(h5:∀l∈A,l.length=5/\∀x∈l,FE x)(g5:∀l∈B,l.length=5/\∀x∈l,FE x)(hb:A.length<=100):AZ bx kn (AE bx ann kn (n+300)) 97 [.list false (A.map encA),.list false (B.map encA)]=some (.bool (decide (A=B))):=by
 rw[AN rfl,AO Tryz.func97 b97 rfl (by simp[encA])];obtain⟨fr,q⟩:=lSm A B hl h5 g5 hb 0 A.length 0 (by omega);have q:=fun n m=>q n (m+150) (by omega);rw[List.drop_zero,List.drop_zero]at q;by_cases h:A=B
 ·rw[if_pos h]at q;rw[decide_eq_true h];simp at q;simp[c97,AF,q]
 ·rw[if_neg h]at q;rw[decide_eq_false h];simp at q;simp[c97,AF,q]
structure BMA(c:AM)(γ g:Nat)(f:List Int)(L:AA):Prop where
 w:Lw c γ L L
 p1:L.get 1=some (0,.box (AD c))
 p4:L.get 4=some (g,.box [.ptr 0 911 (γ+1) 0])
 p6:L.get 6=some (g+1,.box [sl (f.map AW)])
 p7:L.get 7=some (g+1+1,.box [.fn 90 [] [.ptr 0 6 (g+1) 0,.ptr 0 4 g 0,.ptr 0 1 0 0,.ptr 0 7 (g+1+1) 0]])
 no:∀k,¬k∈[1,4,6,7,910,911]->L.get k=none
@[simp] theorem AYU:IW bx 96=true:=by kernel_rfl
theorem AS7(n:Nat)(a:Option Addr)(k:Nat):HZ bx (AE bx ann kn (n+100)) 96 [.raw (.slice a 0 k)]=some ⟨.vec 86 [],none⟩:=by cases a<;>kernel_rfl
theorem P6:koV bx 96 [.list false []]=some ⟨.vec 86 [],none⟩ :=
 AVL (by kernel_rfl) (AHU Kn.hP (VR Kn.hP Kn.hkn 100) fun a k=>AS7 0 a k)
theorem AS8(n:Nat):HZ bx (AE bx ann kn (n+100)) 96 [.list false []]=none:=by kernel_rfl
theorem A3D(e:List V)(es:List (List V)):IC bx .eql 37 (.list false (e::es)) .nil=some (.bool false):=by
 have h:DH bx 37=true:=by kernel_rfl
 show(if DH bx 37=true then(IP (.list false (e::es))).map V.bool else none)=_;rw[if_pos h];rfl
theorem M2(n:Nat)(x:Int×Int)(xs:List (Int×Int))(hl:xs.length<=90):HZ bx (AE bx ann kn (n+100)) 96 [.list false ((x::xs).map AH)]=some ⟨.vec 86 ((x::xs).map AH),none⟩:=by
 rw[AC5 Tryz.func96 b96 rfl (by simp[AH])];have ha:BZ bx 86 0 ((x::xs).map AH)=true:=by rw[BT (by simp) (by simp)];simp[maxLen,AH]at hl|-;omega
 simp only[List.map_cons]at ha|-;simp[c96,AF,AOP,ha,A3D];rw[show xs.length+1=(AH x::xs.map AH).length by simp];exact A77 (P:=bx) (R:=37) (T:=86) (by kernel_rfl) (by simp) _ _ _ 7 0 (AH x::xs.map AH) (by simp) (by simp[AH])
def SU(a:ON):Int×Int:=match a with
 |some a=>a.1
 |none=>(0,0)
def SV(a:ON):B5:=match a with
 |some a=>a.2
 |none=>⟨0,0,false⟩
def SW(c:AM)(g7:Nat)(a:ON)(γ:Nat)(T:List (Sp×B5))(d:AM):AA:=[(1,0,.box (AD c)),(2,1,.box (AH (SU a))),(7,g7,.box (B9 (SV a))),(910,γ,.map (T.map HB)),(911,γ+1,.box (CQ d γ))]
def eX(c:AM)(g7:Nat)(a:ON)(γ:Nat)(T:List (Sp×B5))(d:AM)(s:Int×Int)(g:Nat):AA:=[(1,0,.box (AD c)),(2,1,.box (AH (SU a))),(7,g7,.box (B9 (SV a))),(11,g,.box (AD (B7 c s))),(12,g+1,.box (AH s)),(910,γ,.map (T.map HB)),(911,γ+1,.box (CQ d γ))]
theorem ABB(c:AM)(g7:Nat)(a:ON)(γ:Nat)(T:List (Sp×B5))(d:AM)(s:Int×Int)(g:Nat)(t:St)(ht:1<=t.up.length):AJ t (eX c g7 a γ T d s g)=eX c g7 a γ T d s g:=by
 have e0:¬0=t.up.length:=by omega
 have hs:=zU t T;obtain⟨up,lo⟩:=t;simp only at e0;simp[eX,CQ,AD,AH,B9,hs]
def WB(c:AM)(g7:Nat)(a:ON)(s:Int×Int)(g:Nat):AA:=[(1,0,.box (AD c)),(2,1,.box (AH (SU a))),(7,g7,.box (B9 (SV a))),(12,g+1,.box (AH s)),(910,g+1+1+1+1+1,.map []),(911,g+1+1+1+1+2,.box (CQ (B7 c s) (g+1+1+1+1+1)))]
theorem AK1(c:AM)(g7:Nat)(a:ON)(s:Int×Int)(g:Nat):Lw (B7 c s) (g+1+1+1+1+1) (WB c g7 a s g) (WB c g7 a s g) where
 p0:=⟨[],⟨by simp,by simp,by simp⟩,by simp[WB]⟩
 p1:=by simp[WB]
 st:=fun t ht=>by
  have e0:¬0=t.up.length:=by omega
  obtain⟨up,lo⟩:=t;simp only at e0;simp[WB,CQ,AD,AH,B9,IL]
 ot:=fun _ _=>rfl
set_option maxHeartbeats 4000000 in
theorem ZU(c:AM)(h0:DT c=0)(hc:BQ c)(h3:c.beach.breaks.length<=3)(g7 r:Nat)(hr:(r:Int)<c.beach.rows):∀(k p:Nat) (st:ON×List (List Int)) (γ:Nat) (T:List (Sp×B5)) (d:AM) (cc:Nat),p+k=c.beach.places.toNat->st.2.length=c.beach.rows.toNat->(∀l∈st.2,l.length=5/\∀x∈l,FE x)->g7<cc->1<cc->γ+1<cc ->
  ∃(γ':Nat) (T':List (Sp×B5)) (d':AM) (c':Nat) (fr:Fr),cc<=c'/\γ'+1<c'/\((KB c r k p st).2.length=c.beach.rows.toNat/\∀l∈(KB c r k p st).2,l.length=5/\∀x∈l,FE x)/\A3 fr 1=some (true,.ptr 0 1 0 0)/\A3 fr 2=some (true,.ptr 0 2 1 0)/\A3 fr 6=some (true,.bool (KB c r k p st).1.isSome)/\A3 fr 7=some (true,.ptr 0 7 g7 0)/\A3 fr 8=some (true,.list false ((KB c r k p st).2.map encA))/\A3 fr 41=some (true,i c.beach.rows)/\A3 fr 42=some (true,i r)/\∀n m,k<m ->
   A9 (AE bx ann kn (n+9400) 110) UE (ann 110 (BV UE)) m ⟨cc,[(1,true,.ptr 0 1 0 0),(2,true,.ptr 0 2 1 0),(6,true,.bool st.1.isSome),(7,true,.ptr 0 7 g7 0),(8,true,.list false (st.2.map encA)),(9,true,i r),(41,true,i c.beach.rows),(42,true,i r),(47,true,i c.beach.places),(48,true,i p)],⟨[],SW c g7 st.1 γ T d⟩⟩ =
    some (.exit 3,⟨c',fr,⟨[],SW c g7 (KB c r k p st).1 γ' T' d'⟩⟩)
 |0,p,st,γ,T,d,cc,hd,hs1,hs2,h7,h1,hγ=>by
  have hpl:=hc.be.pl;have hnot:¬((p:Int)<c.beach.places):=by omega
  refine⟨γ,T,d,cc,?fr,Nat.le_refl _,hγ,⟨hs1,hs2⟩,?g1,?g2,?g3,?g4,?g5,?g6,?g7,fun n m hm=>?g⟩;case g=>
   obtain⟨m,rfl⟩:∃k',m=k'+1:=⟨m-1,by omega⟩
   simp[AB,hnot,SW,KB]
   rfl
  all_goals simp[KB]
 |k+1,p,st,γ,T,d,cc,hd,hs1,hs2,h7,h1,hγ=>by
  have hpl:=hc.be.pl;have hro:=hc.be.ro;have hlt:(p:Int)<c.beach.places:=by omega
  have hw:=BH (k:=p) (by omega);have hsp:D5 c.beach ((r:Int),(p:Int))=true:=by simp only[D5,Bool.and_eq_true,C6];omega
  have hx0:=ZP h0 h3 hsp;have hx:=F1 hx0;have hsl:(AV (B7 c ((r:Int),(p:Int)))).length=c.beach.rows.toNat:=LZ;have hsk:∀l∈AV (B7 c ((r:Int),(p:Int))),l.length=5/\∀x∈l,FE x:=fun l hl=>⟨(LY hx l hl).1,fun x hm=>by have:=(LY hx l hl).2 x hm;constructor<;>omega⟩;obtain⟨g',hg',q⟩:=wZ (B7 c ((r:Int),(p:Int))) hx (eX c g7 st.1 γ T d ((r:Int),(p:Int)) cc) (ABB c g7 st.1 γ T d _ cc) (cc+1+1+1+1) 66 [(65,true,.agg (AD (B7 c ((r:Int),(p:Int))))),(1,true,.ptr 0 1 0 0),(2,true,.ptr 0 2 1 0),(6,true,.bool st.1.isSome),(7,true,.ptr 0 7 g7 0),(8,true,.list false (st.2.map encA)),(9,true,i r),(11,true,.ptr 0 11 cc 0),(12,true,.ptr 0 12 (cc+1) 0),(41,true,i c.beach.rows),(42,true,i r),(47,true,i c.beach.places),(48,true,i p)];have q:=fun n=>q (n+1390);obtain⟨L',c',r1,r2,r3⟩:=AS6 hx [] (fun _ _=>rfl) (WB c g7 st.1 ((r:Int),(p:Int)) cc) (AK1 c g7 st.1 _ cc) g' (by omega);have hcb:=fun n fr=>(BC (A:=ann) (kn:=kn) (n:=n+9000) Tryz.func85 b85 rfl (args:=[.ptr 0 911 (cc+1+1+1+1+2) 0]) (by simp) (some 84) g' fr [] (WB c g7 st.1 ((r:Int),(p:Int)) cc)).trans (r3 n 84 fr);have qo:=fun n x xs hl=>M2 n x xs hl;have qe:=fun n=>AS8 n;have ha:∀k,k<=100->BZ bx 86 k [[i r,i p]]=true:=fun k hk=>by rw[BT (by simp) (by simp)];simp[maxLen];omega
  have ha0:=ha 0 (by omega);have hcc:cc<cc+1+1+1+1:=by omega
  have hsm:=fun n=>A3C n (AV (B7 c ((r:Int),(p:Int)))) st.2 (by rw[hs1];exact LZ) hsk hs2 (by rw[LZ];show c.beach.rows.toNat<=100;omega);have hcw:AD (B7 c ((r:Int),(p:Int)))=[i c.beach.last,i c.beach.rows,i c.beach.places,i c.beach.reach,li c.beach.face,li c.beach.sun,FI c.beach.winds,.list false ((c.beach.breaks++[((r:Int),(p:Int))]).map AH),.list false (c.beach.notes.map AH),FI c.plan,.list false (c.chairs.map AR),.list false (c.fams.map AS)]:=rfl;have sL:=r1.st;have q1:L'.get 1=some (0,.box (AD c)):=r1.ot 1 (by decide);have q2:L'.get 2=some (1,.box (AH (SU st.1))):=r1.ot 2 (by decide);have q7:L'.get 7=some (g7,.box (B9 (SV st.1))):=r1.ot 7 (by decide);have q12:L'.get 12=some (cc+1,.box (AH ((r:Int),(p:Int)))):=r1.ot 12 (by decide);have o16:L'.get 16=none:=r1.ot 16 (by decide);have o84:L'.get 84=none:=r1.ot 84 (by decide);obtain⟨T',_,z910⟩:=r1.p0;have z911:=r1.p1;have hlast:KB c r (k+1) p st=KB c r k (p+1) (LK c st ((r:Int),(p:Int))):=rfl;have hc0:0<c':=by omega
  have hc7:g7<c'+1:=by omega
  obtain⟨sa,sS⟩:=st;simp only at *;cases sa with
  |none=>
   have hsl2:LK c (none,sS) ((r:Int),(p:Int))=(C0 c none ((r:Int),(p:Int)),AV (B7 c ((r:Int),(p:Int)))):=rfl
   rw[hlast,hsl2]
   cases hO:GA (B7 c ((r:Int),(p:Int)))with
   |none=>
    have hst:C0 c none ((r:Int),(p:Int))=none:=by unfold C0;rw[hO]
    rw[hst]
    obtain⟨γ',T2,d',c2,fr,h1,h2,h3,f1,f2,f3,f4,f5,f6,f7,ih⟩:=ZU c h0 hc h3 g7 r hr k (p+1) (none,AV (B7 c ((r:Int),(p:Int)))) (cc+1+1+1+1+1) T' (B7 c ((r:Int),(p:Int))) (c'+1) (by omega) hsl hsk (by omega) (by omega) (by omega)
    refine⟨γ',T2,d',c2,fr,by omega,h2,h3,f1,f2,f3,f4,f5,f6,f7,fun n m hm=>?g⟩
    case g=>
     obtain⟨m,rfl⟩:∃k',m=k'+1:=⟨m-1,by omega⟩
     have ih:=ih n m (by omega)
     generalize KB c r k (p+1) (none,AV (B7 c ((r:Int),(p:Int))))=FIN at *
     rw[AB]
     simp only[SW,eX,WB,CQ]at q hcb ih z911|-
     simp only[hcw]at q hcb ih z911
     simp only[AD,B9]at q hcb ih q1 q2 q7 q12 z911|-
     rw[hO]at hcb
     cases hB:c.beach.breaks with
     |nil=>
      rw[hB]at q hcb ih q1 z911
      simp[AH,SU,SV,LL,L5]at q hcb ih q2 q7 q12 z911
      simp[SU,SV,hlt,hw,qe,P6,ha0,hcc,q,hcb,ih,q1,q2,q7,q12,z910,z911,AH,JE,BR,C4,BG,FU,E7]
     |cons b bs=>
      have hbl:bs.length+1<=3:=by have:=congrArg bq hB;rw[bj]at this;omega
      have qo:=fun n=>M2 n b bs (by omega)
      have haL:=ha (bs.length+1) (by omega)
      rw[hB]at q hcb ih q1 z911
      simp[AH,SU,SV,LL,L5]at q hcb ih q2 q7 q12 z911 qo
      simp[SU,SV,hlt,hw,qo,haL,hcc,q,hcb,ih,q1,q2,q7,q12,z910,z911,AH,JE,BR,C4,BG,FU,E7]
   |some q0=>
    have hst:C0 c none ((r:Int),(p:Int))=some (((r:Int),(p:Int)),q0.2):=by unfold C0;rw[hO]
    rw[hst]
    obtain⟨γ',T2,d',c2,fr,h1,h2,h3,f1,f2,f3,f4,f5,f6,f7,ih⟩:=ZU c h0 hc h3 g7 r hr k (p+1) (some (((r:Int),(p:Int)),q0.2),AV (B7 c ((r:Int),(p:Int)))) (cc+1+1+1+1+1) T' (B7 c ((r:Int),(p:Int))) (c'+1) (by omega) hsl hsk (by omega) (by omega) (by omega)
    refine⟨γ',T2,d',c2,fr,by omega,h2,h3,f1,f2,f3,f4,f5,f6,f7,fun n m hm=>?g⟩
    case g=>
     obtain⟨m,rfl⟩:∃k',m=k'+1:=⟨m-1,by omega⟩
     have ih:=ih n m (by omega)
     generalize KB c r k (p+1) (some (((r:Int),(p:Int)),q0.2),AV (B7 c ((r:Int),(p:Int))))=FIN at *
     rw[AB]
     simp only[SW,eX,WB,CQ]at q hcb ih z911|-
     simp only[hcw]at q hcb ih z911
     simp only[AD,B9]at q hcb ih q1 q2 q7 q12 z911|-
     rw[hO]at hcb
     cases hB:c.beach.breaks with
     |nil=>
      rw[hB]at q hcb ih q1 z911
      simp[AH,SU,SV,LL,L5]at q hcb ih q2 q7 q12 z911
      simp[SU,SV,hc0,hc7,hlt,hw,qe,P6,ha0,hcc,q,hcb,ih,q1,q2,q7,q12,z910,z911,AH,JE,BR,C4,BG,FU,E7]
     |cons b bs=>
      have hbl:bs.length+1<=3:=by have:=congrArg bq hB;rw[bj]at this;omega
      have qo:=fun n=>M2 n b bs (by omega)
      have haL:=ha (bs.length+1) (by omega)
      rw[hB]at q hcb ih q1 z911
      simp[AH,SU,SV,LL,L5]at q hcb ih q2 q7 q12 z911 qo
      simp[SU,SV,hc0,hc7,hlt,hw,qo,haL,hcc,q,hcb,ih,q1,q2,q7,q12,z910,z911,AH,JE,BR,C4,BG,FU,E7]
  |some a=>
   by_cases hz:AV (B7 c ((r:Int),(p:Int)))=sS
   ·have hsl2:LK c (some a,sS) ((r:Int),(p:Int))=(some a,sS):=by unfold LK;rw[if_pos (by simp[hz])]
    rw[hlast,hsl2];obtain⟨γ',T2,d',c2,fr,h1,h2,h3,f1,f2,f3,f4,f5,f6,f7,ih⟩:=ZU c h0 hc h3 g7 r hr k (p+1) (some a,sS) (cc+1+1+1+1+1) [] (B7 c ((r:Int),(p:Int))) g' (by omega) hs1 hs2 (by omega) (by omega) (by omega);refine⟨γ',T2,d',c2,fr,by omega,h2,h3,f1,f2,f3,f4,f5,f6,f7,fun n m hm=>?g⟩;case g=>
     obtain⟨m,rfl⟩:∃k',m=k'+1:=⟨m-1,by omega⟩
     have ih:=ih n m (by omega)
     generalize KB c r k (p+1) (some a,sS)=FIN at *
     rw[AB]
     simp only[SW,eX,WB,CQ]at q hcb ih z911|-
     simp only[hcw]at q hcb ih z911
     simp only[AD,B9]at q hcb ih q1 q2 q7 q12 z911|-
     rw[decide_eq_true hz]at hsm
     cases hB:c.beach.breaks with
     |nil=>
      rw[hB]at q hcb ih q1 z911
      simp[AH,SU,SV,LL,L5]at q hcb ih q2 q7 q12 z911
      simp[SU,SV,hlt,hw,qe,P6,ha0,hcc,q,hsm,ih,AH,encA,JE,BR,C4,BG,FU,E7]
     |cons b bs=>
      have hbl:bs.length+1<=3:=by have:=congrArg bq hB;rw[bj]at this;omega
      have qo:=fun n=>M2 n b bs (by omega)
      have haL:=ha (bs.length+1) (by omega)
      rw[hB]at q hcb ih q1 z911
      simp[AH,SU,SV,LL,L5]at q hcb ih q2 q7 q12 z911 qo
      simp[SU,SV,hlt,hw,qo,haL,hcc,q,hsm,ih,AH,encA,JE,BR,C4,BG,FU,E7]
   ·have hsl2:LK c (some a,sS) ((r:Int),(p:Int))=(C0 c (some a) ((r:Int),(p:Int)),AV (B7 c ((r:Int),(p:Int)))):=by unfold LK;rw[if_neg (by simp[hz])]
    rw[hlast,hsl2];cases hO:GA (B7 c ((r:Int),(p:Int)))with
    |none=>
     have hst:C0 c (some a) ((r:Int),(p:Int))=some a:=by unfold C0;rw[hO]
     rw[hst]
     obtain⟨γ',T2,d',c2,fr,h1,h2,h3,f1,f2,f3,f4,f5,f6,f7,ih⟩:=ZU c h0 hc h3 g7 r hr k (p+1) (some a,AV (B7 c ((r:Int),(p:Int)))) (cc+1+1+1+1+1) T' (B7 c ((r:Int),(p:Int))) (c'+1) (by omega) hsl hsk (by omega) (by omega) (by omega)
     refine⟨γ',T2,d',c2,fr,by omega,h2,h3,f1,f2,f3,f4,f5,f6,f7,fun n m hm=>?g⟩
     case g=>
      obtain⟨m,rfl⟩:∃k',m=k'+1:=⟨m-1,by omega⟩
      have ih:=ih n m (by omega)
      generalize KB c r k (p+1) (some a,AV (B7 c ((r:Int),(p:Int))))=FIN at *
      rw[AB]
      simp only[SW,eX,WB,CQ]at q hcb ih z911|-
      simp only[hcw]at q hcb ih z911
      simp only[AD,B9]at q hcb ih q1 q2 q7 q12 z911|-
      rw[hO]at hcb
      rw[decide_eq_false hz]at hsm
      cases hB:c.beach.breaks with
      |nil=>
       rw[hB]at q hcb ih q1 z911
       simp[AH,SU,SV,LL,L5]at q hcb ih q2 q7 q12 z911
       simp[SU,SV,hlt,hw,qe,P6,ha0,hcc,q,hcb,hsm,ih,q1,q2,q7,q12,z910,z911,AH,encA,JE,BR,C4,BG,FU,E7]
      |cons b bs=>
       have hbl:bs.length+1<=3:=by have:=congrArg bq hB;rw[bj]at this;omega
       have qo:=fun n=>M2 n b bs (by omega)
       have haL:=ha (bs.length+1) (by omega)
       rw[hB]at q hcb ih q1 z911
       simp[AH,SU,SV,LL,L5]at q hcb ih q2 q7 q12 z911 qo
       simp[SU,SV,hlt,hw,qo,haL,hcc,q,hcb,hsm,ih,q1,q2,q7,q12,z910,z911,AH,encA,JE,BR,C4,BG,FU,E7]
    |some q0=>
     by_cases hlt2:a.2.sun<q0.2.sun
     ·have hst:C0 c (some a) ((r:Int),(p:Int))=some (((r:Int),(p:Int)),q0.2):=by unfold C0;rw[hO];exact if_pos hlt2
      rw[hst];obtain⟨γ',T2,d',c2,fr,h1,h2,h3,f1,f2,f3,f4,f5,f6,f7,ih⟩:=ZU c h0 hc h3 g7 r hr k (p+1) (some (((r:Int),(p:Int)),q0.2),AV (B7 c ((r:Int),(p:Int)))) (cc+1+1+1+1+1) T' (B7 c ((r:Int),(p:Int))) (c'+1) (by omega) hsl hsk (by omega) (by omega) (by omega);refine⟨γ',T2,d',c2,fr,by omega,h2,h3,f1,f2,f3,f4,f5,f6,f7,fun n m hm=>?g⟩;case g=>
       obtain⟨m,rfl⟩:∃k',m=k'+1:=⟨m-1,by omega⟩
       have ih:=ih n m (by omega)
       generalize KB c r k (p+1) (some (((r:Int),(p:Int)),q0.2),AV (B7 c ((r:Int),(p:Int))))=FIN at *
       rw[AB]
       simp only[SW,eX,WB,CQ]at q hcb ih z911|-
       simp only[hcw]at q hcb ih z911
       simp only[AD,B9]at q hcb ih q1 q2 q7 q12 z911|-
       rw[hO]at hcb
       rw[decide_eq_false hz]at hsm
       cases hB:c.beach.breaks with
       |nil=>
        rw[hB]at q hcb ih q1 z911
        simp[AH,SU,SV,LL,L5]at q hcb ih q2 q7 q12 z911
        simp[SU,SV,hc0,hc7,hlt2,hlt,hw,qe,P6,ha0,hcc,q,hcb,hsm,ih,q1,q2,q7,q12,z910,z911,AH,encA,JE,BR,C4,BG,FU,E7]
       |cons b bs=>
        have hbl:bs.length+1<=3:=by have:=congrArg bq hB;rw[bj]at this;omega
        have qo:=fun n=>M2 n b bs (by omega)
        have haL:=ha (bs.length+1) (by omega)
        rw[hB]at q hcb ih q1 z911
        simp[AH,SU,SV,LL,L5]at q hcb ih q2 q7 q12 z911 qo
        simp[SU,SV,hc0,hc7,hlt2,hlt,hw,qo,haL,hcc,q,hcb,hsm,ih,q1,q2,q7,q12,z910,z911,AH,encA,JE,BR,C4,BG,FU,E7]
     ·have hst:C0 c (some a) ((r:Int),(p:Int))=some a:=by unfold C0;rw[hO];exact if_neg hlt2
      rw[hst];obtain⟨γ',T2,d',c2,fr,h1,h2,h3,f1,f2,f3,f4,f5,f6,f7,ih⟩:=ZU c h0 hc h3 g7 r hr k (p+1) (some a,AV (B7 c ((r:Int),(p:Int)))) (cc+1+1+1+1+1) T' (B7 c ((r:Int),(p:Int))) (c'+1) (by omega) hsl hsk (by omega) (by omega) (by omega);refine⟨γ',T2,d',c2,fr,by omega,h2,h3,f1,f2,f3,f4,f5,f6,f7,fun n m hm=>?g⟩;case g=>
       obtain⟨m,rfl⟩:∃k',m=k'+1:=⟨m-1,by omega⟩
       have ih:=ih n m (by omega)
       generalize KB c r k (p+1) (some a,AV (B7 c ((r:Int),(p:Int))))=FIN at *
       rw[AB]
       simp only[SW,eX,WB,CQ]at q hcb ih z911|-
       simp only[hcw]at q hcb ih z911
       simp only[AD,B9]at q hcb ih q1 q2 q7 q12 z911|-
       rw[hO]at hcb
       rw[decide_eq_false hz]at hsm
       cases hB:c.beach.breaks with
       |nil=>
        rw[hB]at q hcb ih q1 z911
        simp[AH,SU,SV,LL,L5]at q hcb ih q2 q7 q12 z911
        simp[SU,SV,hlt2,hlt,hw,qe,P6,ha0,hcc,q,hcb,hsm,ih,q1,q2,q7,q12,z910,z911,AH,encA,JE,BR,C4,BG,FU,E7]
       |cons b bs=>
        have hbl:bs.length+1<=3:=by have:=congrArg bq hB;rw[bj]at this;omega
        have qo:=fun n=>M2 n b bs (by omega)
        have haL:=ha (bs.length+1) (by omega)
        rw[hB]at q hcb ih q1 z911
        simp[AH,SU,SV,LL,L5]at q hcb ih q2 q7 q12 z911 qo
        simp[SU,SV,hlt2,hlt,hw,qo,haL,hcc,q,hcb,hsm,ih,q1,q2,q7,q12,z910,z911,AH,encA,JE,BR,C4,BG,FU,E7]
theorem APY(c:AM)(h0:DT c=0)(hc:BQ c)(h3:c.beach.breaks.length<=3)(g7:Nat):∀(k r:Nat) (st:ON×List (List Int)) (γ:Nat) (T:List (Sp×B5)) (d:AM) (cc:Nat),r+k=c.beach.rows.toNat->st.2.length=c.beach.rows.toNat->(∀l∈st.2,l.length=5/\∀x∈l,FE x)->g7<cc->1<cc->γ+1<cc ->
  ∃(γ':Nat) (T':List (Sp×B5)) (d':AM) (c':Nat) (fr:Fr),cc<=c'/\A3 fr 2=some (true,.ptr 0 2 1 0)/\A3 fr 6=some (true,.bool (V8 c k r st).1.isSome)/\A3 fr 7=some (true,.ptr 0 7 g7 0)/\∀n m,k<m ->
   A9 (AE bx ann kn (n+9500) 110) UF (ann 110 (BV UF)) m ⟨cc,[(1,true,.ptr 0 1 0 0),(2,true,.ptr 0 2 1 0),(6,true,.bool st.1.isSome),(7,true,.ptr 0 7 g7 0),(8,true,.list false (st.2.map encA)),(41,true,i c.beach.rows),(42,true,i r)],⟨[],SW c g7 st.1 γ T d⟩⟩ =
    some (.exit 1,⟨c',fr,⟨[],SW c g7 (V8 c k r st).1 γ' T' d'⟩⟩)
 |0,r,st,γ,T,d,cc,hd,hs1,hs2,h7,h1,hγ=>by
  have hro:=hc.be.ro;have hnot:¬((r:Int)<c.beach.rows):=by omega
  refine⟨γ,T,d,cc,?fr,Nat.le_refl _,?g2,?g3,?g4,fun n m hm=>?g⟩;case g=>
   obtain⟨m,rfl⟩:∃k',m=k'+1:=⟨m-1,by omega⟩
   simp[AB,hnot,SW,V8]
   rfl
  all_goals simp[V8]
 |k+1,r,st,γ,T,d,cc,hd,hs1,hs2,h7,h1,hγ=>by
  have hro:=hc.be.ro;have hlt:(r:Int)<c.beach.rows:=by omega
  have hw:=BH (k:=r) (by omega);obtain⟨γ1,T1,d1,c1,fr1,g1,g2,⟨g3,g4⟩,a1,a2,a6,a7,a8,a41,a42,q⟩:=ZU c h0 hc h3 g7 r hlt c.beach.places.toNat 0 st γ T d cc (by omega) hs1 hs2 h7 h1 hγ;obtain⟨γ',T',d',c',fr,b1,b2,b6,b7,ih⟩:=APY c h0 hc h3 g7 k (r+1) (KB c r c.beach.places.toNat 0 st) γ1 T1 d1 c1 (by omega) g3 g4 (by omega) (by omega) g2;refine⟨γ',T',d',c',fr,by omega,b2,b6,b7,fun n m hm=>?_⟩;obtain⟨m,rfl⟩:∃k',m=k'+1:=⟨m-1,by omega⟩;have ih:=ih n m (by omega);have q:=q (n+92) (n+9492) (by have:=hc.be.pl;omega);rw[show n+92+9400=n+9492 by omega]at q;have hfin:V8 c (k+1) r st=V8 c k (r+1) (KB c r c.beach.places.toNat 0 st):=rfl;rw[hfin];generalize V8 c k (r+1) (KB c r c.beach.places.toNat 0 st)=FIN at *;generalize KB c r c.beach.places.toNat 0 st=MID at *;rw[AB];simp only[SW,AD]at q ih|-;simp[AH]at q ih;simp[hlt,hw,q,ih,a1,a2,a6,a7,a8,a41,a42,AH]
set_option maxHeartbeats 2000000 in
theorem AK2(n:Nat)(c:AM)(h40:∀l∈c.beach.winds,l.length<=40)(hch:c.chairs.length<=40):AZ bx kn (AE bx ann kn (n+9700)) 46 [.agg (AD c)]=some (.tup [.agg (AH (ZQ c).1),i (ZQ c).2.1,i (ZQ c).2.2]):=by
 rw[AN rfl,AO Tryz.func46 b46 rfl (by simp[AD,AR,A7,AS])];unfold ZQ;have hsB:∀t:St,1<=t.up.length->AJ t [(1,0,.box (AD c)),(2,1,.box [i 0,i 0])]=[(1,0,.box (AD c)),(2,1,.box [i 0,i 0])]:=fun t _=>by simp[AD]
 by_cases h:DT c=0
 ·rw[if_neg (by simp[h])];have hc:=F1 h;obtain⟨g',hg,q⟩:=wZ c hc [(1,0,.box (AD c)),(2,1,.box [i 0,i 0])] hsB 2 20 [(19,true,.agg (AD c)),(1,true,.ptr 0 1 0 0),(2,true,.ptr 0 2 1 0)];have q:=fun n=>q (n+1690);have hg1:1<g':=by omega
  by_cases h4:4<=c.beach.breaks.length
  ·rw[if_pos h4];have h4:(4:Int)<=(c.beach.breaks.length:Int):=by omega
   simp only[CQ,AD]at q|-;simp[c46,AF,AH,q,h4,hg1];done
  ·rw[if_neg h4];have hsl:(AV c).length=c.beach.rows.toNat:=LZ;have hsk:∀l∈AV c,l.length=5/\∀x∈l,FE x:=fun l hl=>⟨(LY hc l hl).1,fun x hm=>by have:=(LY hc l hl).2 x hm;constructor<;>omega⟩;obtain⟨γ',T',d',c',fr,b1,b2,b6,b7,ql⟩:=APY c h hc (by omega) g' c.beach.rows.toNat 0 (none,AV c) 3 [] c (g'+1) (by omega) hsl hsk (by omega) (by omega) (by omega);have ql:=ql (n+190) (n+9690) (by have:=hc.be.ro;omega);rw[show n+190+9500=n+9690 by omega]at ql;have hc1:1<c':=by omega
   have h4:¬(4:Int)<=(c.beach.breaks.length:Int):=by omega
   have hbo:OS c=(V8 c c.beach.rows.toNat 0 (none,AV c)).1:=rfl;rw[hbo];generalize V8 c c.beach.rows.toNat 0 (none,AV c)=FIN at *;obtain⟨fa,fs⟩:=FIN;simp only[SW,CQ,AD,B9]at q ql|-;simp[AH,SU,SV]at ql;cases fa with
   |none=>
    simp at b6 ql
    simp[c46,AF,AH,q,h4,ql,b2,b6,b7,hc1]
    done
   |some a=>
    simp at b6 ql
    simp[c46,AF,AH,q,h4,ql,b2,b6,b7,hc1,JE,BR,C4,FU,E7]
    done
 ·rw[if_pos h];have q:=tG c h40 hch h [(1,0,.box (AD c)),(2,1,.box [i 0,i 0])] hsB 2 20 [(19,true,.agg (AD c)),(1,true,.ptr 0 1 0 0),(2,true,.ptr 0 2 1 0)];have q:=fun n=>q (n+1690);generalize DT c=E at *;simp only[AD]at q|-;simp[c46,AF,AH,q,h];done
end Go.Proofs.Tryz.Op
