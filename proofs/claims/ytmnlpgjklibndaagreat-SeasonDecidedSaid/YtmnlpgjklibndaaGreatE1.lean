/- The truths of a book, one after another, as the program's scenes go through them. No condition. -/
import Derived.Test.YtmnlpgjklibndaaGreatC1
import Derived.Test.YtmnlpgjklibndaaGreatT2
import Derived.Test.YtmnlpgjklibndaaGreatY0
open Go.Proofs.Tryz renaming prog->bn
open List renaming cons_append->bj,map_cons->bq,replicate->bw,take_of_length_le->bx,drop_eq_getElem_cons->bz,mem_map->bc,map_nil->bf,all_eq_true->bg
set_option maxRecDepth 100000
set_option linter.unusedSimpArgs false
open Go Go.Pg Go.Proofs Go.Season
namespace Go.Pg
@[simp] theorem AQS{l k:Nat}{o:Option (Nat×A6)}(f a b c d:Nat)(h:¬a=l):BS l k o f (.vec a b c d)=.vec a b c d:=by
 cases f with
 |zero=>rfl
 |succ f=>
  simp only[BS]
  split
  ·rw[if_neg fun hh=>h hh.1]
  ·rfl
end Go.Pg
namespace Go.Season
def runL{α β:Type}(step:α->β->α)(a:α)(l:List β):α:=l.foldl step a
theorem N5{α β:Type}(step:α->β->α)(a:α)(l r:List β):runL step a (l++r)=runL step (runL step a l) r:=List.foldl_append
def yK{α β:Type}(step:α->β->α)(a0:α)(T:List β)(a:α)(l:List β):Prop:=∃pre post,a=runL step a0 pre/\pre++l++post=T
theorem yK.left{α β:Type}{step:α->β->α}{a0 a:α}{T l r:List β}(h:yK step a0 T a (l++r)):yK step a0 T a l:=by obtain⟨pre,post,h1,h2⟩:=h;exact⟨pre,r++post,h1,by rw[<-h2];simp⟩
theorem yK.right{α β:Type}{step:α->β->α}{a0 a:α}{T l r:List β}(h:yK step a0 T a (l++r)):yK step a0 T (runL step a l) r:=by obtain⟨pre,post,h1,h2⟩:=h;exact⟨pre++l,post,by rw[N5,<-h1],by rw[<-h2];simp⟩
end Go.Season
namespace Go.Proofs.Tryz.Op
def AV(b:A5):List (List AF):=(List.range b.lines.length).map (JO b)
theorem E8(b:A5):(AV b).length=b.lines.length:=by simp[AV]
theorem vQ{c:BC}(hb:QE c){l:List AF}(hl:l∈AV c.book):l.length<=100/\∀x∈l,NJ x:=by
 unfold AV at hl;obtain⟨j,hj,rfl⟩:=bc.1 hl;have hj:j<c.book.lines.length:=by simpa using hj
 have hf:=XN hb.book;have hd:c.book.lines.getD j CX=c.book.lines[j]:=by simp[List.getD_eq_getElem?_getD,hj]
 unfold JO;rw[hd];refine⟨?_,fun x hx=>RJ hf hj (List.mem_filter.1 hx).1⟩;have h1:=List.length_filter_le (fun x=>decide (x∈RK c.book j)) (readingsP c.book.chairs c.book.lines[j]);have h2:=EQ c.book.chairs c.book.lines[j] hf.ch4;omega
def F4(b:A5):List (List AF)->List AF->List (List AF)
 |[],p=>if GA b p=true then[p] else[]
 |l::r,p=>l.flatMap fun x=>F4 b r (p++[x])
def CZ(b:A5):List (List AF):=F4 b (AV b) []
theorem vR(L:AA)(k γ:Nat)(r:A6):AA.put L k γ r=(k,γ,r)::L:=rfl
theorem dA(l:List AF)(k:Nat)(x:AF):(l.set k x).map AB=(l.map AB).set k (AB x):=List.map_set
def B6(l:List AF):List V:=[.list false (l.map AB)]
theorem PD(t:St)(T:TypeId)(l:List (List AF)):BU t (.vec T (l.map B6))=.vec T (l.map B6):=by refine LZ fun e he v hv=>?_;obtain⟨x,_,rfl⟩:=bc.1 he;simp only[B6,List.mem_cons,List.not_mem_nil,or_false]at hv;subst hv;rfl
@[simp] theorem yL:II bn 118=true:=by kernel_rfl
theorem AQT(n:Nat)(a:Option Addr)(k:Nat):EM bn (AH bn ann kn (n+100)) 118 [.raw (.slice a 0 k)]=some ⟨.vec 96 [],none⟩:=by cases a<;>kernel_rfl
theorem AIY:sZ bn 118 [.list false []]=some ⟨.vec 96 [],none⟩ :=
 AS3 (by kernel_rfl) (AFV Kn.hP (KI Kn.hP Kn.hkn 100) fun a k=>AQT 0 a k)
theorem AQU(n:Nat):EM bn (AH bn ann kn (n+100)) 118 [.list false []]=none:=by kernel_rfl
theorem AIZ(n:Nat)(x:AF)(xs:List AF)(hl:xs.length<=90):EM bn (AH bn ann kn (n+100)) 118 [.list false ((x::xs).map AB)]=some ⟨.vec 96 ((x::xs).map AB),none⟩:=by
 rw[UR Tryz.func118 BET rfl (by simp[AB])];have ha:CD bn 96 0 ((x::xs).map AB)=true:=by rw[CQ (by simp) (by simp[AB])];simp[maxLen,AB]at hl|-;omega
 simp only[bq]at ha|-;simp[A3W,AJ,jA,ha,A2B];rw[show xs.length+1=(AB x::xs.map AB).length by simp];exact AG4 (P:=bn) (R:=36) (T:=96) (by kernel_rfl) (by simp) _ _ _ 7 0 (AB x::xs.map AB) (by simp) (by simp[AB])
theorem AI0(n:Nat)(ls:List AF)(hl:ls.length<=90)(d:Tmp):(BX bn ann kn (n+100)).co 118 [.list false (ls.map AB)] d=some ⟨.vec 96 (ls.map AB),none⟩:=by
 have h:(BX bn ann kn (n+100)).co 118 [.list false (ls.map AB)] d=Go.Pg.orM (EM bn (AH bn ann kn (n+100)) 118 [.list false (ls.map AB)]) (sZ bn 118 [.list false (ls.map AB)]):=by show JB bn kn (fun _ _ _=>none) (AH bn ann kn (n+100)) 118 [.list false (ls.map AB)] d=Go.Pg.orM (EM bn (AH bn ann kn (n+100)) 118 [.list false (ls.map AB)]) (sZ bn 118 [.list false (ls.map AB)]);unfold JB;simp only[yL]
 rw[h];cases ls with
 |nil=>
  simp only[bf]
  rw[AQU,AIY];rfl
 |cons x xs=>rw[AIZ n x xs (by simp at hl;omega)];rfl
theorem kO(n:Nat)(ls:List AF)(hl:ls.length<=90)(d g N:Nat)(hN:ls.length=N)(T:TypeId)(st:XS)(co:wN)(hco:co=(BX bn ann kn (n+100)).co):iB co (some d) 118 g N (some (g,.vec T (ls.map AB))) st=some { st with fr:=putD st.fr (some d) true (.list false (ls.map AB)) }:=by
 subst hN hco;have ht:(ls.map AB).take ls.length=ls.map AB:=bx (by simp);have hp:(ls.map AB).all (·.all (FT 8))=true:=bg.2 fun e he=>by obtain⟨l,_,rfl⟩:=bc.1 he;rfl
 have hc:(ls.map AB).all (·.all eP)=true:=bg.2 fun e he=>by obtain⟨l,_,rfl⟩:=bc.1 he;rfl
 have hb:(Nat.beq g g&&(Nat.ble ls.length (ls.map AB).length&&((ls.map AB).take ls.length).all (·.all (FT 8))))=true:=by rw[ht,hp];simp
 unfold iB AFO;simp only;rw[hb,ht,AI0 n ls hl d];simp only;rw[hc]
def kQ(g:Nat):List (List AF)->V
 |[]=>.nil
 |l::ws=>.vec 1 26 g (l::ws).length
def QW(rs:List AA):Prop:=∀t:St,rs.length+1<=t.up.length->rs.map (AQ t)=rs
structure fS(c:BC)(γ0 g2 g3 g7 g8 D6 HG:Nat)(ls:List AF)(L:AA):Prop where
 p2:L.get 2=some (g2,.box [.yld 0 A9 γ0])
 p3:L.get 3=some (g3,.box [kQ D6 (AV c.book)])
 p7:L.get 7=some (g7,.box [.vec 1 30 HG c.book.lines.length])
 p8:L.get 8=some (g8,.box [.fn 116 [] [.ptr 1 3 g3 0,.ref (AC c),.ptr 1 7 g7 0,.ptr 1 2 g2 0,.ptr 1 8 g8 0]])
 p26:AV c.book≠[]->L.get 26=some (D6,.vec 36 ((AV c.book).map B6))
 p30:L.get 30=some (HG,.vec 96 (ls.map AB))
 st:∀t:St,2<=t.up.length->AQ t L=L
 b30:γ0+1<=HG
 ok:∀x∈ls,NJ x
theorem VA{rs:List AA}{loc:AA}(h:QW rs)(hl:∀t:St,rs.length+1<=t.up.length->AQ t loc=loc):QW (rs++[loc]):=by
 intro t ht;have ht':rs.length+1+1<=t.up.length:=by simpa using ht
 simp only[List.map_append,bq,bf];rw[h t (by omega),hl t (by omega)]
theorem XT{L1 L2:AA}{rs:List AA}(h:QW (L1::rs))(h2:∀t:St,2<=t.up.length->AQ t L2=L2):QW (L2::rs):=by intro t ht;have:=h t ht;simp only[bq,List.cons.injEq]at this|-;exact⟨h2 t (by simp at ht;omega),this.2⟩
theorem fS.set{c:BC}{γ0 g2 g3 g7 g8 D6 HG:Nat}{ls:List AF}{L:AA}(h:fS c γ0 g2 g3 g7 g8 D6 HG ls L){k:Nat}(x:AF)(hx:NJ x):fS c γ0 g2 g3 g7 g8 D6 HG (ls.set k x) ((30,HG,.vec 96 ((ls.map AB).set k (AB x)))::L) where
 p2:=by simpa using h.p2
 p3:=by simpa using h.p3
 p7:=by simpa using h.p7
 p8:=by simpa using h.p8
 p26:=fun hn=>by simpa using h.p26 hn
 p30:=by simp[List.map_set]
 st:=by intro t ht;rw[BJ,h.st t ht,<-dA,EZ]
 b30:=h.b30
 ok:=by
  intro y hy;rcases List.mem_or_eq_of_mem_set hy with hy|rfl
  ·exact h.ok y hy
  ·exact hx
def rM{α:Type}(c:BC)(Lv:Nat->α->AA->Prop)(step:α->List AF->α)(a0:α)(γ0 N0:Nat):Prop :=
 ∀(a:α) (L L1:AA) (rest:List AA) (loc:AA) (cc:Nat) (ls:List AF),yK step a0 (CZ c.book) a [ls]->Lv cc a L->γ0+1<cc->GA c.book ls=true->QW (L1::(rest++[loc])) ->
  ∃L' c',Lv c' (step a ls) L'/\cc<=c'/\∀n fr,iH (AH bn ann kn (n+N0)) 0 A9 γ0 [sc ls] ⟨cc,fr,⟨L::L1::rest,loc⟩⟩=some (.bool true,⟨c',fr,⟨L'::L1::rest,loc⟩⟩)
section
variable {α:Type}{c:BC}{Lv:Nat->α->AA->Prop}{step:α->List AF->α}{a0:α}{γ0 N0:Nat}
def AM7(c:BC)(Lv:Nat->α->AA->Prop)(step:α->List AF->α)(a0:α)(γ0 g2 g3 g7 g8 D6 HG M k:Nat)(ws:List (List AF)):Prop :=
 ∀(p:List AF),p.length=k->∀(a:α) (L L1:AA) (rs:List AA) (cc dd:Nat) (fr:Fr) (ls:List AF),yK step a0 (CZ c.book) a (F4 c.book ws p)->Lv cc a L->fS c γ0 g2 g3 g7 g8 D6 HG ls L1->QW (L1::rs)->HG<cc->ls.length=c.book.lines.length->ls.take k=p ->
  ∃L' L1' c' ls',Lv c' (runL step a (F4 c.book ws p)) L'/\fS c γ0 g2 g3 g7 g8 D6 HG ls' L1'/\cc<=c'/\ls'.length=c.book.lines.length/\ls'.take k=p /\
   ∀n,jI bn (some dd) fr Tryz.f116.results.toList (AH bn ann kn (n+M) 47 gM ⟨cc,AJ 0 [i k,.ptr 1 3 g3 0,.ref (AC c),.ptr 1 7 g7 0,.ptr 1 2 g2 0,.ptr 1 8 g8 0],⟨L::L1::rs,[]⟩⟩)=pA (some dd) fr c' (.bool true) (CW (L'::L1'::rs))
theorem AM8(hmo:∀c1 c2 a L,c1<=c2->Lv c1 a L->Lv c2 a L)(g2 g3 g7 g8 D6 HG W k:Nat)(hkl:k<c.book.lines.length)(h8:c.book.lines.length<=8)(ws:List (List AF))(p:List AF)(hp:p.length=k)
  (hrec:AM7  c Lv step a0 γ0 g2 g3 g7 g8 D6 HG (W+2000) (k+1) ws) (rs:List AA) (xs:List AF) (hok:∀x∈xs,NJ x) (hlen:xs.length<=100) :
  ∀(e j:Nat) (a:α) (L L1:AA) (cc:Nat) (ls:List AF),j+e=xs.length->yK step a0 (CZ c.book) a ((xs.drop j).flatMap fun x=>F4 c.book ws (p++[x]))->Lv cc a L->fS c γ0 g2 g3 g7 g8 D6 HG ls L1->QW (L1::rs)->HG<cc->ls.length=c.book.lines.length->ls.take k=p ->
  ∃(fr0:Fr) (L' L1':AA) (c':Nat) (ls':List AF),Lv c' (runL step a ((xs.drop j).flatMap fun x=>F4 c.book ws (p++[x]))) L'/\fS c γ0 g2 g3 g7 g8 D6 HG ls' L1'/\cc<=c'/\ls'.length=c.book.lines.length/\ls'.take k=p /\
   ∀n m,e<m->BN (AH bn ann kn (n+W+2054) 47) MN (ann 47 (CC MN)) m ⟨cc,[(0,true,i k),(3,true,.ptr 1 7 g7 0),(5,true,.ptr 1 8 g8 0),(31,true,.list false (xs.map AB)),(32,true,i xs.length),(33,true,i j)],⟨L::L1::rs,[]⟩⟩ =
    some (.exit 0,⟨c',fr0,⟨L'::L1'::rs,[]⟩⟩)
 |0,j,a,L,L1,cc,ls,hd,_,hL,hL1,hst,hc,hll,hlt=>by
  have:j=xs.length:=by omega
  subst this;refine⟨?fr,L,L1,cc,ls,by simpa [runL]using hL,hL1,by omega,hll,hlt,fun n m hm=>?g⟩;case g=>
   obtain⟨m,rfl⟩:=qNz m (by omega)
   rw[AD]
   simp
   rfl
 |e+1,j,a,L,L1,cc,ls,hd,hat,hL,hL1,hst,hc,hll,hlt=>by
  have hL1o:=hL1;obtain⟨p2,p3,p7,p8,p26,p30,pst,b30,pok⟩:=hL1;have hj:j<xs.length:=by omega
  have hw:=DF (k:=j) (by omega);have hwk:=DF (k:=k) (by omega);have hg30:HG<cc+1:=by omega
  have hfl:(xs.drop j).flatMap (fun x=>F4 c.book ws (p++[x]))=F4 c.book ws (p++[xs[j]])++(xs.drop (j+1)).flatMap (fun x=>F4 c.book ws (p++[x])):=by rw[bz hj,List.flatMap_cons]
  rw[hfl]at hat;have hL1':=fS.set hL1o (k:=k) xs[j] (hok _ (List.getElem_mem hj));obtain⟨L2,L3,c2,ls2,r1,r2,r3,r4,r5,r6⟩:=hrec (p++[xs[j]]) (by simp[hp]) a L _ (rs++[[]]) (cc+1) 44 [(43,true,i ((k:Int)+1)),(42,true,i k),(41,true,.fn 116 [] [.ptr 1 3 g3 0,.ref (AC c),.ptr 1 7 g7 0,.ptr 1 2 g2 0,.ptr 1 8 g8 0]),
   (0,true,i k),(3,true,.ptr 1 7 g7 0),(5,true,.ptr 1 8 g8 0),(31,true,.list false (xs.map AB)),(32,true,i xs.length),(33,true,i j)] (ls.set k xs[j]) hat.left (hmo _ _ _ _ (by omega) hL) hL1' (by have:=VA (loc:=[]) (XT hst hL1'.st) (fun _ _=>rfl); rwa [bj]at this) (by omega) (by simpa using hll) (MG hlt (by omega))
  have hca:=fun n=>BP (A:=ann) (kn:=kn) (n:=n+W+2046) Tryz.func116 b116 rfl (args:=[i ((k:Int)+1),.ptr 1 3 g3 0,.ref (AC c),.ptr 1 7 g7 0,.ptr 1 2 g2 0,.ptr 1 8 g8 0]) (by simp) (some 44) (cc+1) [(43,true,i ((k:Int)+1)),(42,true,i k),(41,true,.fn 116 [] [.ptr 1 3 g3 0,.ref (AC c),.ptr 1 7 g7 0,.ptr 1 2 g2 0,.ptr 1 8 g8 0]),
   (0,true,i k),(3,true,.ptr 1 7 g7 0),(5,true,.ptr 1 8 g8 0),(31,true,.list false (xs.map AB)),(32,true,i xs.length),(33,true,i j)] (L :: ((30,HG,.vec 96 ((ls.map AB).set k (AB xs[j]))) :: L1) :: rs) []
  have r6':=fun n=>r6 (n+46);have e46:∀n,n+46+(W+2000)=n+W+2046:=fun n=>by omega
  simp only[e46]at r6';have hcb:=fun n=>by have h1:=hca n;rw[bj,bj]at h1;exact h1.trans ((r6' n).trans (by rw[<-bj,<-bj,unsnoc_snoc]))
  obtain⟨fr0,L',L1',c',ls',i1,i2,i3,i4,i5,ih⟩:=AM8  hmo g2 g3 g7 g8 D6 HG W k hkl h8 ws p hp hrec rs xs hok hlen e (j+1) (runL step a (F4 c.book ws (p++[xs[j]]))) L2 L3 c2 ls2 (by omega) hat.right r1 r2 (XT hst r2.st) (by omega) r4 (PW r5 hp);rw[hfl,N5];refine⟨fr0,L',L1',c',ls',i1,i2,by omega,i4,i5,fun n m hm=>?_⟩;obtain⟨m,rfl⟩:=qNz m (by omega);have ih:=ih n m (by omega);have hcb:=hcb n;have nb3:Nat.beq 3 1=false:=rfl;rw[AD];simp only[AC,AB]at hcb p8 ih|-;try simp at hcb ih
  simp[hj,hw,hwk,AB,AM,AG,AL,p2,p3,p7,p8,p30,hll,hkl,hg30,vR,nb3,hcb,ih]
end
theorem dB(g:Nat)(W:List (List AF)):GV bn 173 (kQ g W)=some (.int .i64 W.length):=by cases W<;>simp[kQ]
section
variable {α:Type}{c:BC}{Lv:Nat->α->AA->Prop}{step:α->List AF->α}{a0:α}{γ0 N0:Nat}
theorem AM9(hb:QE c)(hmo:∀c1 c2 a L,c1<=c2->Lv c1 a L->Lv c2 a L)(hlv:∀c a L,Lv c a L->∀t:St,1<=t.up.length->AQ t L=L)(hs:rM  c Lv step a0 γ0 N0)(hok:∀l∈AV c.book,l.length<=100/\∀x∈l,NJ x)(g2 g3 g7 g8 D6 HG:Nat):∀(ws:List (List AF)) (k:Nat),(AV c.book).drop k=ws->k<=c.book.lines.length->AM7  c Lv step a0 γ0 g2 g3 g7 g8 D6 HG (N0+60*ws.length+2000) k ws
 |[],k,hw,hk=>by
  intro p hp a L L1 rs cc dd fr ls hat hL hL1 hst hc hll hlt;have hL1o:=hL1;obtain⟨p2,p3,p7,p8,p26,p30,pst,b30,pok⟩:=hL1;have hW:=E8 c.book;have hkn:k=c.book.lines.length:=by have:=congrArg List.length hw;simp at this;omega
  have he:p=ls:=by rw[<-hlt,bx (by omega)]
  subst he;have h8:=hb.lines;have q53:=fun n=>k53 n c.book p pok;have hki:decide ((k:Int)=(c.book.lines.length:Int))=true:=by simp;omega
  have hev:=dB D6 (AV c.book);rw[hW]at hev;generalize kQ D6 (AV c.book)=WV at p3 hev;have hrs:∀t:St,rs.length+2<=t.up.length->rs.map (AQ t)=rs:=fun t h=>by have:=hst t (by simp;omega);simp only[bq,List.cons.injEq]at this;exact this.2
  have hcy:∀E:XE,(cfU [20030,30030] E).cy=E.cy:=fun _=>rfl;have hco:∀E:XE,(cfU [20030,30030] E).co=E.co:=fun _=>rfl;simp only[F4];cases hr:GA c.book p with
  |false=>
   rw[hr]at q53
   refine⟨L,L1,cc,p,by simpa [runL]using hL,hL1o,by omega,hll,hlt,fun n=>?_⟩
   simp only[AC,AE]at q53|-
   simp[gM,AJ,AB,AM,AG,AL,p2,p3,p7,p8,p30,hll,hki,hev,q53,US,hlv _ _ _ hL,pst,hrs,<-Nat.add_assoc,runL]
  |true=>
   rw[hr]at q53
   have hpl:p.length<=90:=by omega
   have hcl:AK 9 (.list false (p.map AB))=true:=by simp[AB]
   have hrc:=fun (n g d:Nat) (st:XS)=>kO n p hpl d g _ hll 96 st _ rfl
   obtain⟨L',c',r1,r2,r3⟩:=hs a L L1 rs [] (cc+2) p (by simpa [F4,hr]using hat) (hmo _ _ _ _ (by omega) hL) (by omega) hr (by have:=VA (loc:=[]) hst (fun _ _=>rfl);rwa [bj]at this)
   refine⟨L',L1,c',p,by simpa [runL]using r1,hL1o,by omega,hll,hlt,fun n=>?_⟩
   have hl2:=hlv _ _ _ r1
   have m3:∀(c:Nat) (fr:Fr) (up:List AA) (loc:AA),ET 25 ⟨c,fr,⟨up,loc⟩⟩=⟨c,KZ up.length 25 (loc.get 25) fr,⟨up,FS up.length 25 (loc.get 25) loc⟩⟩:=fun _ _ _ _=>rfl
   have r3:=fun fr=>r3 (n+1994) fr
   rw[show n+1994+N0=n+N0+1994 by omega]at r3
   simp only[AC,AE,sc]at q53 r3|-
   try simp at r3
   simp[gM,AJ,AB,AM,AG,AL,p2,p3,p7,p8,p30,hll,hki,hev,q53,US,hl2,pst,hrs,<-Nat.add_assoc,runL,hco,hrc,putD,Fr.put,fE,LY,nY,OU,nV,hcl,tK,P9,JY,cJ,m3,hcy,r3]
 |l::ws,k,hw,hk=>by
  intro p hp a L L1 rs cc dd fr ls hat hL hL1 hst hc hll hlt;have hL1o:=hL1;obtain⟨p2,p3,p7,p8,p26,p30,pst,b30,pok⟩:=hL1;have hW:=E8 c.book;have hkl:k<c.book.lines.length:=by have:=congrArg List.length hw;simp at this;omega
  have hkw:k<(AV c.book).length:=by omega
  rw[bz hkw]at hw;cases hw;have h8:=hb.lines;have hne:AV c.book≠[]:=fun h=>by rw[h]at hkw;simp at hkw
  have p26':=p26 hne;have hwv:kQ D6 (AV c.book)=.vec 1 26 D6 (AV c.book).length:=by
   generalize AV c.book=W at hne;cases W with
   |nil=>exact absurd rfl hne
   |cons _ _=>rfl
  rw[hwv,hW]at p3;have hgk:((AV c.book).map B6)[k]? = some (B6 (AV c.book)[k]):=by simp[hkw]
  obtain⟨o1,o2⟩:=hok _ (List.getElem_mem hkw);have hki:decide ((k:Int)=(c.book.lines.length:Int))=false:=by simp;omega
  have hrs:∀t:St,rs.length+2<=t.up.length->rs.map (AQ t)=rs:=fun t h=>by have:=hst t (by simp;omega);simp only[bq,List.cons.injEq]at this;exact this.2
  obtain⟨fr0,L',L1',c',ls',i1,i2,i3,i4,i5,i6⟩:=AM8  hmo g2 g3 g7 g8 D6 HG (N0+60*((AV c.book).drop (k+1)).length) k hkl h8 ((AV c.book).drop (k+1)) p hp (AM9 hb  hmo hlv hs hok g2 g3 g7 g8 D6 HG ((AV c.book).drop (k+1)) (k+1) rfl (by omega)) rs (AV c.book)[k] o2 o1 ((AV c.book)[k]).length 0 a L L1 cc ls (by omega) (by simpa [F4]using hat) hL hL1o hst hc hll hlt;rw[List.drop_zero]at i1;refine⟨L',L1',c',ls',by simpa [F4]using i1,i2,by omega,i4,i5,fun n=>?_⟩;have hl2:=hlv _ _ _ i1;have pst2:=i2.st;have hlen:((AV c.book)[k]::(AV c.book).drop (k+1)).length=((AV c.book).drop (k+1)).length+1:=rfl;rw[hlen,show n+(N0+60*(((AV c.book).drop (k+1)).length+1)+2000)=n+(N0+60*((AV c.book).drop (k+1)).length)+2060 by omega];have i6:=i6 n (n+(N0+60*((AV c.book).drop (k+1)).length)+2054) (by omega);generalize n+(N0+60*((AV c.book).drop (k+1)).length)=n2 at i6|-;generalize (AV c.book)[k]=X at i6 hgk;have hWl:c.book.lines.length<=((AV c.book).map B6).length:=by simp;omega
  generalize (AV c.book).map B6=WW at p26' hgk hWl;simp only[AC,B6]at i6 hgk|-;try simp at i6
  simp[gM,AJ,AB,AM,AG,AL,p2,p3,p7,p8,p26',p30,hgk,hll,hki,hW,hWl,hkl,pst2,hl2,hrs,i6]
end
theorem AI1(e c γ:Nat)(fr:Fr)(loc:AA)(W:List (List AF))(x:List AF)(up:List AA)(hup:up.length=1)(hl:AA.get loc 26=(pl 26 γ e (W.map B6)).get 26)(h1:(W.map B6).all (fun y=>y.length==(bn).cellsOf e)=true)(h2:CD bn e W.length [B6 x]=true) :
  rH bn e 26 c fr ⟨up,loc⟩ (kQ γ W) [B6 x]=some ⟨c+1,(26,true,kQ c (W++[x]))::fr,⟨up,(26,c,.vec e ((W++[x]).map B6))::loc⟩⟩:=by
 cases W with
 |nil=>
  simp only[List.length_nil]at h2
  simp[h2,kQ,hup]
 |cons z es=>
  have hl:AA.get loc 26=some (γ,.vec e ((z::es).map B6)):=by rw[hl];simp
  have h3:(z::es).length=((z::es).map B6).length:=by simp
  rw[h3]at h2
  show rH bn e 26 c fr ⟨up,loc⟩ (.vec 1 26 γ (z::es).length) [B6 x]=some ⟨c+1,(26,true,.vec 1 26 c ((z::es)++[x]).length)::fr,⟨up,(26,c,.vec e (((z::es)++[x]).map B6))::loc⟩⟩
  rw[h3]
  simp only[jG,jH,hup,if_true,hl,TF,LN,L8,true_and,h1,h2]
  simp[hup]
theorem ACT(g:Nat)(W:List (List AF)):BD (kQ g W)=true:=by cases W<;>rfl
theorem yM(g:Nat)(W:List (List AF)):BA (kQ g W)=[kQ g W]:=by cases W<;>rfl
def lw0(γ0 g2 g3 D6:Nat)(W:List (List AF)):AA:=(2,g2,.box [.yld 0 A9 γ0])::(3,g3,.box [kQ D6 W])::pl 26 D6 36 (W.map B6)
theorem ACU(c:BC)(hb:QE c)(γ0 g2 g3:Nat)(L0:AA):∀(e j cc D6:Nat),j+e=c.book.lines.length->g3<cc->D6<cc ->
  ∃(c' g26':Nat),cc<=c'/\c'<=cc+2*e/\g26'<c'/\∀n m,e<m->BN (AH bn ann kn (n+3300) 34) MM (ann 34 (CC MM)) m ⟨cc,[(1,true,.ref (AC c)),(2,true,.ptr 1 2 g2 0),(3,true,.ptr 1 3 g3 0),(12,true,i c.book.lines.length),(13,true,i j)],⟨[L0],lw0 γ0 g2 g3 D6 ((AV c.book).take j)⟩⟩=some (.exit 0,⟨c',[(14,true,.bool false),(1,true,.ref (AC c)),(2,true,.ptr 1 2 g2 0),(3,true,.ptr 1 3 g3 0),(12,true,i c.book.lines.length),(13,true,i c.book.lines.length)],⟨[L0],lw0 γ0 g2 g3 g26' (AV c.book)⟩⟩)
 |0,j,cc,D6,hd,h3,h26=>by
  have:j=c.book.lines.length:=by omega
  subst this;have hW:=E8 c.book;rw[bx (by omega)];refine⟨cc,D6,by omega,by omega,h26,fun n m hm=>?_⟩;obtain⟨m,rfl⟩:=qNz m (by omega);rw[AD];simp[AC,lw0]
 |e+1,j,cc,D6,hd,h3,h26=>by
  have hj:j<c.book.lines.length:=by omega
  have h8:=hb.lines;have hw:=DF (k:=j) (by omega);have hW:=E8 c.book;have hjw:j<(AV c.book).length:=by omega
  have hx:(AV c.book)[j]=JO c.book j:=by simp[AV]
  have htk:(AV c.book).take (j+1)=(AV c.book).take j++[JO c.book j]:=by rw[<-hx];simp
  have hne:JO c.book j≠[]:=aP hj hb.ask;have q33:=fun n=>k33 n c.book j (by omega);have hin:D7 (j:Int) 0 ((c.book.lines.length:Int)-1)=true:=by simp[D7];omega
  have hwv:ABI c.book j=.tup [.list false ((JO c.book j).map AB),i 0]:=by
   unfold ABI;rw[hin,hb.ask,if_pos rfl,Int.toNat_natCast];cases hq:JO c.book j with
   |nil=>exact absurd hq hne
   |cons x xs=>rfl
  have hln:((AV c.book).take j).length=j:=by simp;omega
  obtain⟨c',g26',r2,r3,r4,ih⟩:=ACU c hb γ0 g2 g3 L0 e (j+1) (cc+1) cc (by omega) (by omega) (by omega);refine⟨c',g26',by omega,by omega,r4,fun n m hm=>?_⟩;obtain⟨m,rfl⟩:=qNz m (by omega);have ih:=ih n m (by omega);have q33:=fun n=>(q33 n).trans (congrArg some hwv);have hap:CD bn 36 ((AV c.book).take j).length [B6 (JO c.book j)]=true:=by rw[CQ (by simp) (by simp)];simp[maxLen,B6];omega
  have hall:(((AV c.book).take j).map B6).all (fun y=>y.length==(bn).cellsOf 36)=true:=bg.2 fun e he=>by obtain⟨l,_,rfl⟩:=bc.1 he;simp[B6]
  have hav:=fun fr loc hl=>AI1 36 cc D6 fr loc ((AV c.book).take j) (JO c.book j) [L0] rfl hl hall hap;rw[htk]at ih;rw[AD];generalize (AV c.book).take j=WW at ih hav;simp only[AC,AE,B6,lw0]at q33 ih hav|-;try simp at ih
  have hg3:g3<cc+1:=by omega
  simp[hj,hw,hg3,q33,ih,hav,ACT,yM,AB,AM]
theorem AI2(k γ:Nat)(T:TypeId)(es:List (List V))(R:AA):kl k R ((pl k γ T es).get k)=pl k γ T es++R:=by
 cases es with
 |nil=>rfl
 |cons e es=>simp
theorem kR{k j:Nat}(γ:Nat)(T:TypeId)(es:List (List V))(R:AA)(h:j≠k):AA.get (pl k γ T es++R) j=R.get j:=by
 cases es with
 |nil=>rfl
 |cons e es=>simp[h]
theorem ACV{k:Nat}(γ:Nat)(T:TypeId)(es:List (List V))(R:AA)(h:R.get k=none):AA.get (pl k γ T es++R) k=(pl k γ T es).get k:=by
 cases es with
 |nil=>simpa using h
 |cons e es=>simp
section
variable {α:Type}{c:BC}{Lv:Nat->α->AA->Prop}{step:α->List AF->α}{a0:α}{γ0 N0:Nat}
theorem ACW(hb:QE c)(hmo:∀c1 c2 a L,c1<=c2->Lv c1 a L->Lv c2 a L)(hlv:∀c a L,Lv c a L->∀t:St,1<=t.up.length->AQ t L=L)(hs:rM  c Lv step a0 γ0 N0)(L:AA)(hL:Lv (γ0+1) a0 L)(fr:Fr) :
  ∃L' c',Lv c' (runL step a0 (CZ c.book)) L'/\γ0+1<=c'/\∀n,K3 (BX bn ann kn (n+N0+4000)) none ⟨γ0+1,fr,⟨[],L⟩⟩ 114 [.yld 0 A9 γ0,.ref (AC c)]=some ⟨c',fr,⟨[],L'⟩⟩:=by
 have h8:=hb.lines
 have hW:=E8 c.book
 have hwl:∀t:St,BU t (.vec 36 ((AV c.book).map B6))=.vec 36 ((AV c.book).map B6):=fun t=>PD t _ _
 obtain⟨c1,D6,k1,k2,k3,hlo⟩:=ACU c hb γ0 (γ0+1) (γ0+2) L c.book.lines.length 0 (γ0+3) 0 (by omega) (by omega) (by omega)
 let L1:AA:=(2,γ0+1,.box [.yld 0 A9 γ0])::(3,γ0+2,.box [kQ D6 (AV c.book)])::(7,c1+1,.box [.vec 1 30 c1 c.book.lines.length]) ::
  (8,c1+2,.box [.fn 116 [] [.ptr 1 3 (γ0+2) 0,.ref (AC c),.ptr 1 7 (c1+1) 0,.ptr 1 2 (γ0+1) 0,.ptr 1 8 (c1+2) 0]]) ::
  (pl 26 D6 36 ((AV c.book).map B6)++[(30,c1,.vec 96 ((bw c.book.lines.length CX).map AB))])
 have hL1:fS c γ0 (γ0+1) (γ0+2) (c1+1) (c1+2) D6 c1 (bw c.book.lines.length CX) L1:=by
  refine⟨rfl,rfl,rfl,rfl,fun hn=>?_,?_,fun t ht=>?_,by omega,fun x hx=>?_⟩
  ·obtain⟨x,xs,hxs⟩:∃x xs,AV c.book=x::xs:=by
    cases h:AV c.book with
    |nil=>exact absurd h hn
    |cons x xs=>exact⟨x,xs,rfl⟩
   simp[L1,hxs]
  ·simp[L1,kR]
  ·have e0:¬0=t.up.length:=by omega
   have e1:¬1=t.up.length:=by omega
   have hp:AQ t (pl 26 D6 36 ((AV c.book).map B6)++[(30,c1,.vec 96 ((bw c.book.lines.length CX).map AB))])=pl 26 D6 36 ((AV c.book).map B6)++[(30,c1,.vec 96 ((bw c.book.lines.length CX).map AB))]:=by
    generalize AV c.book=W;cases W with
    |nil=>simp only[bf,HZ,List.nil_append,BJ,EZ];rfl
    |cons x xs=>simp only[bq,xQ,bj,List.nil_append,BJ,EZ];rw[<-bq,PD];rfl
   have hv:BU t (.box [kQ D6 (AV c.book)])=.box [kQ D6 (AV c.book)]:=by obtain⟨up,loc⟩:=t;simp only at e1;generalize AV c.book=W;cases W<;>simp[kQ,e1]
   simp only[L1,BJ,hp,hv];obtain⟨up,loc⟩:=t;simp only at e0 e1;simp[e0,e1,AC,AB,AM,AG,AL]
  ·rw[(List.mem_replicate.1 hx).2];exact⟨by unfold VZ CX;simp,by unfold VZ CX;simp,by unfold VZ CX;simp⟩
 have hok:∀l∈AV c.book,l.length<=100/\∀x∈l,NJ x:=fun l hl=>vQ hb hl
 obtain⟨L',L1',c',t',r1,r2,r3,r4,r5,r6⟩:=AM9 hb hmo hlv hs hok (γ0+1) (γ0+2) (c1+1) (c1+2) D6 c1 (AV c.book) 0 rfl (by omega) [] rfl a0 L L1 [] (c1+3) 33 [(32,true,.fn 116 [] [.ptr 1 3 (γ0+2) 0,.ref (AC c),.ptr 1 7 (c1+1) 0,.ptr 1 2 (γ0+1) 0,.ptr 1 8 (c1+2) 0]),(8,true,.ptr 1 8 (c1+2) 0)]
  (bw c.book.lines.length CX) ⟨[],[],rfl,by simp[CZ]⟩ (hmo _ _ _ _ (by omega) hL) hL1 (by intro t ht;simp only[bq,bf,hL1.st t (by simpa using ht)]) (by omega) (by simp) (by simp)
 refine⟨L',c',r1,by omega,fun n=>?_⟩
 have hl2:=hlv _ _ _ r1
 rw[BP Tryz.func114 b114 rfl (by simp)]
 have r6:=r6 (n+1993-60*(AV c.book).length)
 have hca:=BP (A:=ann) (kn:=kn) (n:=n+N0+3993) Tryz.func116 b116 rfl (args:=[i ((0:Nat):Int),.ptr 1 3 (γ0+2) 0,.ref (AC c),.ptr 1 7 (c1+1) 0,.ptr 1 2 (γ0+1) 0,.ptr 1 8 (c1+2) 0]) (by simp) (some 33) (c1+3) [(32,true,.fn 116 [] [.ptr 1 3 (γ0+2) 0,.ref (AC c),.ptr 1 7 (c1+1) 0,.ptr 1 2 (γ0+1) 0,.ptr 1 8 (c1+2) 0]),(8,true,.ptr 1 8 (c1+2) 0)] [L] L1
 rw[show n+1993-60*(AV c.book).length+(N0+60*(AV c.book).length+2000)=n+N0+3993 by omega]at r6
 have hca:=hca.trans (r6.trans rfl)
 have z1:(bw c.book.lines.length CX).map AB=bw c.book.lines.length (AB CX):=by simp
 have hev:=dB D6 (AV c.book)
 have m1:c.book.lines.length*24<=140737488355328:=by omega
 have m2:c.book.lines.length<=maxLen:=by unfold maxLen;omega
 have e3:AB CX=[V.int IntKind.i64 0,V.int IntKind.i64 0,V.int IntKind.i64 0]:=rfl
 rw[hW]at hev
 have hlo:=hlo (n+N0+694) (n+N0+3994) (by omega)
 rw[List.take_zero,show n+N0+694+3300=n+N0+3994 by omega]at hlo
 generalize n+N0=n2 at hca hlo|-
 have z2:kQ 0 []=.nil:=rfl
 simp only[lw0,bf,HZ,z2]at hlo
 simp only[L1,z1,e3,AC]at hca hlo|-
 simp at hca hlo
 simp[ARM,AJ,hev,m1,m2,AI2,kR,ACV,Nat.add_assoc,hlo,hca,hl2]
end
end Go.Proofs.Tryz.Op
