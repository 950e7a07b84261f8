/- Contracts of the law: flipped, flips. No condition but short lists of directions. -/
import Derived.Test.YthhdhbalenanjaaGreatA3
import Derived.Test.YthhdhbalenanjaaGreatD2
open Go.Proofs.Tryz renaming prog->cd
open List renaming take_succ_eq_append_getElem->bj,length_map->bk,reverse->bq,map_append->bw,eq_nil_of_length_eq_zero->bz,mem_cons_of_mem->bb,all_eq_true->bc,getElem_mem->bf,length_take->bg,drop_eq_getElem_cons->bh,take_length->bm,mem_map->bp,length_nil->cj,drop_eq_nil_of_le->ck,length_reverse->cq,take_zero->cw,length->cx,map->cz
open Bool renaming and_eq_true->bx
open Nat renaming le_refl->bn
set_option maxRecDepth 100000
set_option linter.unusedSimpArgs false
open Go Go.Pg Go.Proofs Go.Wind
namespace Go.Proofs.Tryz.Op
def YS:List (List Int):=[[0],[1],[2],[3],[0,1],[0,2],[0,3],[1,2],[1,3],[2,3],[0,1,2],[0,1,3],[0,2,3],[1,2,3],[0,1,2,3]]
theorem eG{l:List Int}(h:DB l=true):l∈YS:=by
 simp only[DB,bx,DF,bc]at h;obtain⟨⟨h1,h2⟩,h3⟩:=h;have hd:∀x∈l,x=0\/x=1\/x=2\/x=3:=fun x hx=>by have:=BU.1 (h2 x hx);omega
 match l,h1,hd,h3 with
 |[a],_,hd,_=>
  rcases hd a (by simp)with rfl|rfl|rfl|rfl<;>decide
 |[a,b],_,hd,h3=>
  rcases hd a (by simp)with rfl|rfl|rfl|rfl<;>rcases hd b (by simp)with rfl|rfl|rfl|rfl<;>first|decide|(exact absurd h3 (by decide))
 |[a,b,d],_,hd,h3=>
  simp only[H7,bx,decide_eq_true_eq]at h3
  obtain⟨e1,e2,_⟩:=h3
  rcases hd a (by simp)with rfl|rfl|rfl|rfl<;>rcases hd b (by simp)with rfl|rfl|rfl|rfl<;>first|omega|(rcases hd d (by simp)with rfl|rfl|rfl|rfl<;>first|omega|decide)
 |[a,b,d,e],_,hd,h3=>
  simp only[H7,bx,decide_eq_true_eq]at h3
  obtain⟨e1,e2,e3,_⟩:=h3
  have:=hd a (by simp)
  have:=hd b (by simp)
  have:=hd d (by simp)
  have:=hd e (by simp)
  obtain rfl:a=0:=by omega
  obtain rfl:b=1:=by omega
  obtain rfl:d=2:=by omega
  obtain rfl:e=3:=by omega
  decide
 |a::b::d::e::f::r,_,hd,h3=>
  simp only[H7,bx,decide_eq_true_eq]at h3
  obtain⟨e1,e2,e3,e4,_⟩:=h3
  have:=hd a (by simp)
  have:=hd b (by simp)
  have:=hd d (by simp)
  have:=hd e (by simp)
  have:=hd f (by simp)
  omega
@[simp] theorem AVW:H0 cd 105=true:=by kernel_rfl
theorem AC0(n:Nat)(x:Int)(hx:-1<=x/\x<=3):A5 cd kn (AE cd ann kn (n+100)) 106 [i x]=some (i (EB x)):=by
 rw[AN rfl,AP Tryz.func106 BCG rfl (by simp)];have h:x = -1\/x=0\/x=1\/x=2\/x=3:=by omega
 rcases h with rfl|rfl|rfl|rfl|rfl<;>simp[A15,AD,EB]<;>rfl
theorem A0K{l:List Int}{k:Nat}(h:k+l.length<=10000):BV cd 3 k (l.map AJ)=true:=by rw[BS (by simp) (by simp)];simp[maxLen,AJ];omega
theorem AQK(xs:List Int)(h1:xs.length<=100)(h2:∀x∈xs,-1<=x/\x<=3):∀(d k c γ:Nat),k+d=xs.length->∃fr c' γ',BD fr 1=some (true,.bool false)/\BD fr 5=some (true,pv 22 γ' ((BN xs).map AJ))/\∀n m,d<m->BJ (AE cd ann kn (n+200) 64) S8 (ann 64 (B9 S8)) m ⟨c,[(0,true,li xs),(1,true,.bool false),(5,true,pv 22 γ ((BN (xs.take k)).map AJ)),(6,true,i k)],⟨[],pl 22 γ 3 ((BN (xs.take k)).map AJ)⟩⟩ =
  some (.exit 0,⟨c',fr,⟨[],pl 22 γ' 3 ((BN xs).map AJ)⟩⟩)
 |0,k,c,γ,hk=>by
  have:k=xs.length:=by omega
  subst this;rw[bm];refine⟨?fr,c,γ,?_,?_,fun n m hm=>?_⟩;rotate_left 3
  ·obtain⟨m,rfl⟩:=qNz m (by omega);rw[AB];simp;rfl
  ·simp
  ·simp
 |d+1,k,c,γ,hk=>by
  have hk':k<xs.length:=by omega
  have hw:=BW (k:=k) (by omega);have q:=fun n=>AC0 n xs[k] (h2 _ (bf hk'));have htl:(BN (xs.take k)).length=k:=by rw[F0,bg];omega
  have ha:BV cd 3 (BN (xs.take k)).length [[i (EB xs[k])]]=true:=by have:=A0K (k:=(BN (xs.take k)).length) (l:=[EB xs[k]]) (by rw[List.length_singleton];omega);simpa [AJ]using this
  obtain⟨fr,c',γ',e0,e1,ih⟩:=AQK xs h1 h2 d (k+1) (c+1) c (by omega);refine⟨fr,c',γ',e0,e1,fun n m hm=>?_⟩;obtain⟨m,rfl⟩:=qNz m (by omega);have ih:=ih n m (by omega);have hst:BN (xs.take (k+1))=BN (xs.take k)++[EB xs[k]]:=by rw[bj hk',BN,bw];rfl
  rw[hst]at ih;generalize BN (xs.take k)=acc at *;generalize BN xs=fin at *;rw[AB];simp[AJ]at ih;simp[hk',hw,AJ,q,ha,ih]
theorem A0L(n m c γ:Nat)(e:List V)(es:List (List V))(hm:0<m):∃fr,BD fr 5=some (true,pv 22 γ (e::es))/\BJ (AE cd ann kn (n+200) 64) S9 (ann 64 (B9 S9)) m ⟨c,[(1,true,.bool false),(5,true,pv 22 γ (e::es)),(7,true,i 0)],⟨[],pl 22 γ 3 (e::es)⟩⟩=some (.exit 2,⟨c,fr,⟨[],pl 22 γ 3 (e::es)⟩⟩):=by
 obtain⟨m,rfl⟩:=qNz m (by omega);refine⟨?fr,?_,?_⟩;rotate_left 2
 ·rw[AB];simp;rfl
 ·simp
theorem vB(n:Nat)(xs:List Int)(h1:xs.length<=100)(h2:∀x∈xs,-1<=x/\x<=3)(hne:xs≠[]):H1 cd (AE cd ann kn (n+500)) 105 [li xs,.bool false]=some ⟨.vec 3 ((BN xs).map AJ),none⟩:=by
 rw[WD Tryz.func105 A16 rfl (by simp)];obtain⟨fr,c',γ',e0,e1,q⟩:=AQK xs h1 h2 xs.length 0 0 0 (by omega);have q:=fun n m=>q n (m+200) (by omega);cases hx:BN xs with
 |nil=>
  have:=F0 xs
  rw[hx]at this
  exact absurd (bz this.symm) hne
 |cons x r=>
  rw[hx]at q e1
  obtain⟨fr2,f5,q7⟩:=A0L (n+293) (n+493) c' γ' (AJ x) (r.map AJ) (by omega)
  rw[show n+293+200=n+493 by omega]at q7
  simp[BN]at q e1 q7 f5
  simp[AQ4,AD,q,e0,e1,q7,f5,YC]
  exact oU (P:=cd) (R:=22) (T:=3) (by kernel_rfl) (by simp) _ _ _ 22 γ' ((x::r).map AJ) (by simp) (by simp[AJ])
theorem AJA(n:Nat)(l:List Int)(h:DB l=true):A5 cd kn (AE cd ann kn (n+1000)) 105 [li l,.bool true]=some (.list false ((FE l).map AJ)):=by have hm:=eG h;simp only[YS,List.mem_cons,List.not_mem_nil,or_false]at hm;rcases hm with rfl|rfl|rfl|rfl|rfl|rfl|rfl|rfl|rfl|rfl|rfl|rfl|rfl|rfl|rfl<;>(clear h;show _=_;kernel_rfl)
theorem AJB(n:Nat)(xs:List Int)(h1:xs.length<=100)(h2:∀x∈xs,-1<=x/\x<=3)(hne:xs≠[]):A5 cd kn (AE cd ann kn (n+500)) 105 [li xs,.bool false]=some (.list false ((BN xs).map AJ)):=by
 rw[AN rfl,AP Tryz.func105 A16 rfl (by simp)];obtain⟨fr,c',γ',e0,e1,q⟩:=AQK xs h1 h2 xs.length 0 0 0 (by omega);have q:=fun n m=>q n (m+200) (by omega);cases hx:BN xs with
 |nil=>
  have:=F0 xs
  rw[hx]at this
  exact absurd (bz this.symm) hne
 |cons x r=>
  rw[hx]at q e1
  obtain⟨fr2,f5,q7⟩:=A0L (n+293) (n+493) c' γ' (AJ x) (r.map AJ) (by omega)
  rw[show n+293+200=n+493 by omega]at q7
  simp[BN]at q e1 q7 f5
  simp[AQ4,AD,q,e0,e1,q7,f5]
  rw[MI (T:=3) 3 _ 22 γ' (AJ x::r.map AJ) (by simp)]
  simp[AJ,slC]
abbrev cU(c:AR)(F S:List Int)(v6 v7 v8 v9 v10:V)(g1 g2:Nat):AX:=.box [i c.beach.last,i c.beach.rows,i c.beach.places,i c.beach.reach,.vec 0 24 g1 F.length,.vec 0 28 g2 S.length,v6,v7,v8,v9,v10,.list false (c.fams.map AY)]
theorem AC1{k:Nat}{l:List Int}(h:k<=10000):BV cd 22 k [[li l]]=true:=by rw[BS (by simp) (by simp)];simp[maxLen];omega
theorem A0M(c:AR)(hc:B7 c)(Z:List V)(F S:List Int)(g1 g2:Nat):∀(d h cc γw γp:Nat),h+d=c.beach.winds.length->3<cc->∃(c' γw' γp':Nat) (fr:Fr),cc<=c'/\BD fr 1=some (true,.ptr 0 1 0 0)/\BD fr 2=some (true,.ptr 0 2 1 0)/\BD fr 3=some (true,.ptr 0 3 2 0)/\BD fr 4=some (true,.ptr 0 3 2 0)/\BD fr 5=some (true,i (c.beach.places-1))/\∀n m,d<m ->
  BJ (AE cd ann kn (n+1500) 168) Y3 (ann 168 (B9 Y3)) m ⟨cc,[(1,true,.ptr 0 1 0 0),(2,true,.ptr 0 2 1 0),(3,true,.ptr 0 3 2 0),(4,true,.ptr 0 3 2 0),(5,true,i (c.beach.places-1)),(6,true,i h)],
   ⟨[],(1,0,.box (AF c)) :: (2,1,.box Z) :: (3,2,cU c F S (pv 65 γw (((c.beach.winds.take h).map FE).map AQ)) .nil .nil (pv 77 γp ((DS (c.plan.take h)).map AQ)) .nil g1 g2) :: (24,g1,.vec 3 (F.map AJ)) :: (28,g2,.vec 3 (S.map AJ)) :: (pl 65 γw 22 (((c.beach.winds.take h).map FE).map AQ)++pl 77 γp 22 ((DS (c.plan.take h)).map AQ))⟩⟩ =
   some (.exit 0,⟨c',fr,⟨[],(1,0,.box (AF c))::(2,1,.box Z)::(3,2,cU c F S (pv 65 γw' ((c.beach.winds.map FE).map AQ)) .nil .nil (pv 77 γp' ((DS c.plan).map AQ)) .nil g1 g2)::(24,g1,.vec 3 (F.map AJ))::(28,g2,.vec 3 (S.map AJ))::(pl 65 γw' 22 ((c.beach.winds.map FE).map AQ)++pl 77 γp' 22 ((DS c.plan).map AQ))⟩⟩)
 |0,h,cc,γw,γp,hd,hcc=>by
  have hwi:=hc.be.wi;have hpl:=hc.pl;simp only[CP,bx,decide_eq_true_eq]at hpl;obtain rfl:h=c.beach.winds.length:=by omega
  rw[bm,show c.plan.take c.beach.winds.length=c.plan from List.take_of_length_le (by omega)];have h3:¬(c.beach.last+1<=c.beach.last):=by omega
  refine⟨cc,γw,γp,?fr,bn _,?g1,?g2,?g3,?g4,?g5,fun n k hk=>?g9⟩;case g9=>
   obtain⟨k,rfl⟩:∃k',k=k'+1:=⟨k-1,by omega⟩
   generalize (c.beach.winds.map FE).map AQ=R
   generalize (DS c.plan).map AQ=Q
   rw[AB]
   cases R<;>cases Q<;>simp[AF,hwi,h3]
   all_goals rfl
  all_goals simp
 |d+1,h,cc,γw,γp,hd,hcc=>by
  have hwi:=hc.be.wi;have hla:=hc.be.la;have hro:=hc.be.ro;have hpl:=hc.pl;simp only[CP,bx,decide_eq_true_eq,bc]at hpl;have hh:h<c.beach.winds.length:=by omega
  have hp:h<c.plan.length:=by omega
  have hle:(h:Int)<=c.beach.last:=by omega
  have hw:=BW (k:=h) (by omega);have hpm:=hpl.1 _ (bf hp);have hpd:∀x∈c.plan[h],0<=x/\x<=3:=fun x hx=>BU.1 (bc.1 hpm.2 x hx);have hpn:c.plan[h]≠[]:=fun e=>by have h1:=hpm.1;rw[e]at h1;simp at h1;omega
  have qW:=fun n=>AJA n c.beach.winds[h] (bc.1 hc.be.wo _ (bf hh));have qP:=fun n=>AJB n c.plan[h] (by omega) (fun x hx=>by have:=hpd x hx;omega) hpn;have hRl:(((c.beach.winds.take h).map FE).map AQ).length=h:=by rw[bk,bk,bg];omega
  have hQl:((DS (c.plan.take h)).map AQ).length=h:=by unfold DS;rw[bk,bk,bg];omega
  have hstR:((c.beach.winds.take (h+1)).map FE).map AQ=((c.beach.winds.take h).map FE).map AQ++[AQ (FE c.beach.winds[h])]:=by rw[bj hh,bw,bw];rfl
  have hstQ:(DS (c.plan.take (h+1))).map AQ=(DS (c.plan.take h)).map AQ++[AQ (BN c.plan[h])]:=by unfold DS;rw[bj hp,bw,bw];rfl
  have tR:=fun k o=>gS 0 k o ((c.beach.winds.take h).map FE);have tQ:=fun k o=>gS 0 k o (DS (c.plan.take h));have lR:∀e∈((c.beach.winds.take h).map FE).map AQ,e.length=1:=fun e he=>by obtain⟨l,_,rfl⟩:=bp.1 he;rfl
  have lQ:∀e∈(DS (c.plan.take h)).map AQ,e.length=1:=fun e he=>by obtain⟨l,_,rfl⟩:=bp.1 he;rfl
  have aR:=fun l=>AC1 (k:=(((c.beach.winds.take h).map FE).map AQ).length) (l:=l) (by omega);have aQ:=fun l=>AC1 (k:=((DS (c.plan.take h)).map AQ).length) (l:=l) (by omega);have nW:FE c.beach.winds[h]≠[]:=fun e=>by have:=uW (bc.1 hc.be.wo _ (bf hh));rw[e]at this;simp[DB]at this
  have nP:BN c.plan[h]≠[]:=fun e=>hpn (bz (by rw[<-F0,e];rfl));obtain⟨c',γw',γp',fr,hcc',g1',g2',g3',g4',g5',ih⟩:=A0M c hc Z F S g1 g2 d (h+1) (cc+1+1) cc (cc+1) (by omega) (by omega);refine⟨c',γw',γp',fr,by omega,g1',g2',g3',g4',g5',fun n k hk=>?_⟩;obtain⟨k,rfl⟩:∃k',k=k'+1:=⟨k-1,by omega⟩;have ih:=ih n k (by omega);rw[hstR,hstQ]at ih;have c2:2<cc+1:=by omega
  have c3:2<cc:=by omega
  have c0:0<cc:=by omega
  clear hpl hpm hpd hstR hstQ;generalize (c.beach.winds.map FE).map AQ=finR at *;generalize (DS c.plan).map AQ=finQ at *;generalize ((c.beach.winds.take h).map FE).map AQ=R at *;generalize (DS (c.plan.take h)).map AQ=Q at *;generalize hmW:FE c.beach.winds[h]=mW at *;generalize hfP:BN c.plan[h]=fP at *;rw[AB];simp only[AF]at ih|-;cases mW with
  |nil=>exact absurd rfl nW
  |cons w mW=>
  cases fP with
  |nil=>exact absurd rfl nP
  |cons p fP=>
  have aR:=aR (w::mW);have aQ:=aQ (p::fP);cases R with
  |nil=>
   obtain rfl:h=0:=by simpa using hRl.symm
   obtain rfl:Q=[]:=bz hQl
   have hle0:0<=c.beach.last:=by omega
   simp[AQ,AJ,li,LF]at ih aR aQ
   simp[hh,hp,hle0,AQ,AJ,qW,qP,aR,aQ,ih,JF,CE,DV,CH,JG,GS,N8,c0,c2]
   done
  |cons r R=>
   cases Q with
   |nil=>
    exfalso
    simp at hQl hRl
    omega
   |cons q Q=>
    have lR2:=lR r (by simp)
    have lR3:=eq_true (fun e he=>lR e (bb r he):∀e∈R,e.length=1)
    have lQ2:=lQ q (by simp)
    have lQ3:=eq_true (fun e he=>lQ e (bb q he):∀e∈Q,e.length=1)
    simp[AQ,AJ,li,LF]at ih aR aQ tR tQ
    simp[hh,hp,hle,hw,AQ,AJ,qW,qP,aR,aQ,lR2,lR3,lQ2,lQ3,ih,LF,JF,CE,DV,CH,JG,GS,c0,c2]
    done
theorem vC{l:List Int}{lo:Int}(h:DF l lo=true):∀x∈l,lo<=x/\x<=3:=fun x hx=>BU.1 (bc.1 h x hx)
theorem AQL{k:Nat}{x:Int×Int}(h:k<=10000):BV cd 59 k [[i x.1,i x.2]]=true:=by rw[BS (by simp) (by simp)];simp[maxLen];omega
theorem AQM{k:Nat}{x:Int×Int}(h:k<=10000):BV cd 188 k [[i x.1,i x.2]]=true:=by rw[BS (by simp) (by simp)];simp[maxLen];omega
theorem ANQ(c:AR)(hc:B7 c)(Z:List V)(F S:List Int)(W P:List (List V))(g1 g2 γw γp:Nat):∀(d k cc γb:Nat),k+d=c.beach.breaks.length->3<cc->∃(c' γb':Nat) (fr:Fr),cc<=c'/\BD fr 1=some (true,.ptr 0 1 0 0)/\BD fr 2=some (true,.ptr 0 2 1 0)/\BD fr 3=some (true,.ptr 0 3 2 0)/\BD fr 4=some (true,.ptr 0 3 2 0)/\BD fr 5=some (true,i (c.beach.places-1))/\∀n m,d<m ->
  BJ (AE cd ann kn (n+1500) 168) TA (ann 168 (B9 TA)) m ⟨cc,[(1,true,.ptr 0 1 0 0),(2,true,.ptr 0 2 1 0),(3,true,.ptr 0 3 2 0),(4,true,.ptr 0 3 2 0),(5,true,i (c.beach.places-1)),(7,true,i k)],
   ⟨[],(1,0,.box (AF c)) :: (2,1,.box Z) :: (3,2,cU c F S (.vec 0 65 γw W.length) (pv 106 γb (((c.beach.breaks.take k).map (GM c.beach)).map AM)) .nil (.vec 0 77 γp P.length) .nil g1 g2) :: (24,g1,.vec 3 (F.map AJ)) :: (28,g2,.vec 3 (S.map AJ)) :: (65,γw,.vec 22 W) :: (77,γp,.vec 22 P) :: pl 106 γb 59 (((c.beach.breaks.take k).map (GM c.beach)).map AM)⟩⟩ =
   some (.exit 2,⟨c',fr,⟨[],(1,0,.box (AF c))::(2,1,.box Z)::(3,2,cU c F S (.vec 0 65 γw W.length) (pv 106 γb' ((c.beach.breaks.map (GM c.beach)).map AM)) .nil (.vec 0 77 γp P.length) .nil g1 g2)::(24,g1,.vec 3 (F.map AJ))::(28,g2,.vec 3 (S.map AJ))::(65,γw,.vec 22 W)::(77,γp,.vec 22 P)::pl 106 γb' 59 ((c.beach.breaks.map (GM c.beach)).map AM)⟩⟩)
 |0,k,cc,γb,hd,hcc=>by
  obtain rfl:k=c.beach.breaks.length:=by omega
  rw[bm];have h3:¬(c.beach.breaks.length<c.beach.breaks.length):=by omega
  refine⟨cc,γb,?fr,bn _,?g1,?g2,?g3,?g4,?g5,fun n k hk=>?g9⟩;case g9=>
   obtain⟨k,rfl⟩:∃k',k=k'+1:=⟨k-1,by omega⟩
   generalize (c.beach.breaks.map (GM c.beach)).map AM=R
   rw[AB]
   cases R<;>simp[AF]
   all_goals rfl
  all_goals simp
 |d+1,k,cc,γb,hd,hcc=>by
  have hk:k<c.beach.breaks.length:=by omega
  have hbr:=hc.be.br;have hpl:=hc.be.pl;have hw:=BW (k:=k) (by omega);have hsp:=bc.1 hc.be.bo _ (bf hk);simp only[E2,bx,BU]at hsp;have w1:IntKind.i64.wrap (c.beach.places-1-(c.beach.breaks[k]).2)=c.beach.places-1-(c.beach.breaks[k]).2:=AW (by omega) (by omega);have hRl:(((c.beach.breaks.take k).map (GM c.beach)).map AM).length=k:=by rw[bk,bk,bg];omega
  have hst:((c.beach.breaks.take (k+1)).map (GM c.beach)).map AM=((c.beach.breaks.take k).map (GM c.beach)).map AM++[AM (GM c.beach c.beach.breaks[k])]:=by rw[bj hk,bw,bw];rfl
  have ha:=AQL (k:=(((c.beach.breaks.take k).map (GM c.beach)).map AM).length) (x:=GM c.beach c.beach.breaks[k]) (by omega);obtain⟨c',γb',fr,hcc',g1',g2',g3',g4',g5',ih⟩:=ANQ c hc Z F S W P g1 g2 γw γp d (k+1) (cc+1+1) (cc+1) (by omega) (by omega);refine⟨c',γb',fr,by omega,g1',g2',g3',g4',g5',fun n m hm=>?_⟩;obtain⟨m,rfl⟩:∃k',m=k'+1:=⟨m-1,by omega⟩;have ih:=ih n m (by omega);rw[hst]at ih;have c2:2<cc+1:=by omega
  have c3:2<cc:=by omega
  have c0:0<cc:=by omega
  have lR:∀e∈((c.beach.breaks.take k).map (GM c.beach)).map AM,e.length=2:=fun e he=>by obtain⟨l,_,rfl⟩:=bp.1 he;rfl
  clear hst;generalize (c.beach.breaks.map (GM c.beach)).map AM=fin at *;generalize ((c.beach.breaks.take k).map (GM c.beach)).map AM=R at *;generalize hq:c.beach.breaks[k]=q at *;rw[AB];simp only[AF]at ih|-;cases R with
  |nil=>
   simp[AM,GM,LF]at ih ha
   simp[hk,hw,w1,hq,AM,ha,ih,JF,CE,DV,JG,GS,N8,c0]
   done
  |cons r R=>
   have lR2:=lR r (by simp)
   have lR3:=eq_true (fun e he=>lR e (bb r he):∀e∈R,e.length=2)
   simp[AM,GM,LF]at ih ha
   simp[hk,hw,w1,hq,AM,ha,ih,LF,JF,CE,DV,JG,GS,c0,lR2,lR3]
   done
theorem ANR(c:AR)(hc:B7 c)(Z:List V)(F S:List Int)(W P B:List (List V))(g1 g2 γw γp γb:Nat):∀(d k cc γn:Nat),k+d=c.beach.notes.length->3<cc->∃(c' γn':Nat) (fr:Fr),cc<=c'/\BD fr 1=some (true,.ptr 0 1 0 0)/\BD fr 2=some (true,.ptr 0 2 1 0)/\BD fr 3=some (true,.ptr 0 3 2 0)/\BD fr 5=some (true,i (c.beach.places-1))/\∀n m,d<m ->
  BJ (AE cd ann kn (n+1500) 168) TB (ann 168 (B9 TB)) m ⟨cc,[(1,true,.ptr 0 1 0 0),(2,true,.ptr 0 2 1 0),(3,true,.ptr 0 3 2 0),(4,true,.ptr 0 3 2 0),(5,true,i (c.beach.places-1)),(9,true,i k)],
   ⟨[],(1,0,.box (AF c)) :: (2,1,.box Z) :: (3,2,cU c F S (.vec 0 65 γw W.length) (pv 106 γb B) (pv 135 γn (((c.beach.notes.take k).map IW).map AM)) (.vec 0 77 γp P.length) .nil g1 g2) :: (24,g1,.vec 3 (F.map AJ)) :: (28,g2,.vec 3 (S.map AJ)) :: (65,γw,.vec 22 W) :: (77,γp,.vec 22 P) :: (pl 106 γb 59 B++pl 135 γn 188 (((c.beach.notes.take k).map IW).map AM))⟩⟩ =
   some (.exit 4,⟨c',fr,⟨[],(1,0,.box (AF c))::(2,1,.box Z)::(3,2,cU c F S (.vec 0 65 γw W.length) (pv 106 γb B) (pv 135 γn' ((c.beach.notes.map IW).map AM)) (.vec 0 77 γp P.length) .nil g1 g2)::(24,g1,.vec 3 (F.map AJ))::(28,g2,.vec 3 (S.map AJ))::(65,γw,.vec 22 W)::(77,γp,.vec 22 P)::(pl 106 γb 59 B++pl 135 γn' 188 ((c.beach.notes.map IW).map AM))⟩⟩)
 |0,k,cc,γn,hd,hcc=>by
  obtain rfl:k=c.beach.notes.length:=by omega
  rw[bm];have h3:¬(c.beach.notes.length<c.beach.notes.length):=by omega
  refine⟨cc,γn,?fr,bn _,?g1,?g2,?g3,?g5,fun n k hk=>?g9⟩;case g9=>
   obtain⟨k,rfl⟩:∃k',k=k'+1:=⟨k-1,by omega⟩
   generalize (c.beach.notes.map IW).map AM=R
   rw[AB]
   cases B<;>cases R<;>simp[AF]
   all_goals rfl
  all_goals simp
 |d+1,k,cc,γn,hd,hcc=>by
  have hk:k<c.beach.notes.length:=by omega
  have hno:=hc.be.no;have hw:=BW (k:=k) (by omega);have hsp:=bc.1 hc.be.nok _ (bf hk);simp only[HI,bx,BU]at hsp;have qF:=fun n=>AC0 n (c.beach.notes[k]).2 (by omega);have hRl:(((c.beach.notes.take k).map IW).map AM).length=k:=by rw[bk,bk,bg];omega
  have hst:((c.beach.notes.take (k+1)).map IW).map AM=((c.beach.notes.take k).map IW).map AM++[AM (IW c.beach.notes[k])]:=by rw[bj hk,bw,bw];rfl
  have ha:=AQM (k:=(((c.beach.notes.take k).map IW).map AM).length) (x:=IW c.beach.notes[k]) (by omega);obtain⟨c',γn',fr,hcc',g1',g2',g3',g5',ih⟩:=ANR c hc Z F S W P B g1 g2 γw γp γb d (k+1) (cc+1+1) (cc+1) (by omega) (by omega);refine⟨c',γn',fr,by omega,g1',g2',g3',g5',fun n m hm=>?_⟩;obtain⟨m,rfl⟩:∃k',m=k'+1:=⟨m-1,by omega⟩;have ih:=ih n m (by omega);rw[hst]at ih;have c2:2<cc+1:=by omega
  have c3:2<cc:=by omega
  have c0:0<cc:=by omega
  have lR:∀e∈((c.beach.notes.take k).map IW).map AM,e.length=2:=fun e he=>by obtain⟨l,_,rfl⟩:=bp.1 he;rfl
  clear hst;generalize (c.beach.notes.map IW).map AM=fin at *;generalize ((c.beach.notes.take k).map IW).map AM=R at *;generalize hq:c.beach.notes[k]=q at *;rw[AB];simp only[AF]at ih|-;cases R with
  |nil=>
   simp[AM,IW,LF]at ih ha
   cases B with
   |nil=>
    simp at ih
    simp[hk,hw,qF,hq,AM,ha,ih,JF,CE,DV,JG,GS,N8,c0]
    done
   |cons b B=>
    simp[LF]at ih
    simp[hk,hw,qF,hq,AM,ha,ih,LF,JF,CE,DV,JG,GS,N8,c0]
    done
  |cons r R=>
   have lR2:=lR r (by simp)
   have lR3:=eq_true (fun e he=>lR e (bb r he):∀e∈R,e.length=2)
   simp[AM,IW,LF]at ih ha
   cases B with
   |nil=>
    simp at ih
    simp[hk,hw,qF,hq,AM,ha,ih,LF,JF,CE,DV,JG,GS,c0,lR2,lR3]
    done
   |cons b B=>
    simp[LF]at ih
    simp[hk,hw,qF,hq,AM,ha,ih,LF,JF,CE,DV,JG,GS,c0,lR2,lR3]
    done
def K8(l:List Bool)(n:Nat):List Bool:=(l.drop n).reverse
theorem yW{l:List Bool}{n:Nat}(h:n<l.length):K8 l n=K8 l (n+1)++[l[n]]:=by unfold K8;rw[bh h,List.reverse_cons]
theorem A0N{k:Nat}{x:Bool}(h:k<=10000):BV cd 4 k [[.bool x]]=true:=by rw[BS (by simp) (by simp)];simp[maxLen];omega
theorem ANS(c:AR)(hc:B7 c)(r:Nat)(hr:r<c.chairs.length)(Z:List V)(F S:List Int)(W P B M C:List (List V))(g1 g2 γw γp γb γn γc:Nat):∀(d cc γr:Nat),d<=(c.chairs[r]).length->3<cc->∃(c' γr':Nat) (fr:Fr),cc<=c'/\BD fr 1=some (true,.ptr 0 1 0 0)/\BD fr 2=some (true,.ptr 0 2 1 0)/\BD fr 3=some (true,.ptr 0 3 2 0)/\BD fr 5=some (true,i (c.beach.places-1))/\BD fr 11=some (true,i r)/\BD fr 12=some (true,pv 160 γr' ((K8 c.chairs[r] 0).map BF))/\∀n m,d<m ->
  BJ (AE cd ann kn (n+1500) 168) TC (ann 168 (B9 TC)) m ⟨cc,[(1,true,.ptr 0 1 0 0),(2,true,.ptr 0 2 1 0),(3,true,.ptr 0 3 2 0),(5,true,i (c.beach.places-1)),(11,true,i r),(12,true,pv 160 γr ((K8 c.chairs[r] d).map BF)),(13,true,i ((d:Int)-1))],
   ⟨[],(1,0,.box (AF c)) :: (2,1,.box Z) :: (3,2,cU c F S (.vec 0 65 γw W.length) (pv 106 γb B) (pv 135 γn M) (.vec 0 77 γp P.length) (pv 165 γc C) g1 g2) :: (24,g1,.vec 3 (F.map AJ)) :: (28,g2,.vec 3 (S.map AJ)) :: (65,γw,.vec 22 W) :: (77,γp,.vec 22 P) :: (pl 106 γb 59 B++(pl 135 γn 188 M++pl 160 γr 4 ((K8 c.chairs[r] d).map BF)++pl 165 γc 97 C))⟩⟩ =
   some (.exit 8,⟨c',fr,⟨[],(1,0,.box (AF c))::(2,1,.box Z)::(3,2,cU c F S (.vec 0 65 γw W.length) (pv 106 γb B) (pv 135 γn M) (.vec 0 77 γp P.length) (pv 165 γc C) g1 g2)::(24,g1,.vec 3 (F.map AJ))::(28,g2,.vec 3 (S.map AJ))::(65,γw,.vec 22 W)::(77,γp,.vec 22 P)::(pl 106 γb 59 B++(pl 135 γn 188 M++pl 160 γr' 4 ((K8 c.chairs[r] 0).map BF)++pl 165 γc 97 C))⟩⟩)
 |0,cc,γr,hd,hcc=>by
  refine⟨cc,γr,[(147,true,.bool false),(146,true,i (-1)),(1,true,.ptr 0 1 0 0),(2,true,.ptr 0 2 1 0),(3,true,.ptr 0 3 2 0),(5,true,i (c.beach.places-1)),(11,true,i r),(12,true,pv 160 γr ((K8 c.chairs[r] 0).map BF)),(13,true,i (-1))],bn _,by simp,by simp,by simp,by simp,by simp,by simp,fun n k hk=>?g9⟩;case g9=>
   obtain⟨k,rfl⟩:∃k',k=k'+1:=⟨k-1,by omega⟩
   generalize (K8 c.chairs[r] 0).map BF=R
   rw[AB]
   cases B<;>cases M<;>cases C<;>cases R<;>simp[AF]
 |d+1,cc,γr,hd,hcc=>by
  have hd':d<(c.chairs[r]).length:=by omega
  have hcl:=hc.cr _ (bf hr);have hpl:=hc.be.pl;have hrl:(K8 c.chairs[r] (d+1)).length<=5:=by unfold K8;rw[cq,List.length_drop];omega
  have w1:IntKind.i64.wrap (((d+1:Nat):Int)-1-1)=(d:Int)-1:=by rw[AW (by omega) (by omega)];omega
  have e1:((d+1:Nat):Int)-1=(d:Int):=by omega
  have ha:=A0N (k:=((K8 c.chairs[r] (d+1)).map BF).length) (x:=(c.chairs[r])[d]) (by rw[bk];omega);have hst:(K8 c.chairs[r] d).map BF=(K8 c.chairs[r] (d+1)).map BF++[BF (c.chairs[r])[d]]:=by rw[yW hd',bw];rfl
  obtain⟨c',γr',fr,hcc',g1',g2',g3',g5',g6',g7',ih⟩:=ANS c hc r hr Z F S W P B M C g1 g2 γw γp γb γn γc d (cc+1) cc (by omega) (by omega);refine⟨c',γr',fr,by omega,g1',g2',g3',g5',g6',g7',fun n m hm=>?_⟩;obtain⟨m,rfl⟩:∃k',m=k'+1:=⟨m-1,by omega⟩;have ih:=ih n m (by omega);rw[hst]at ih;rw[e1];have w2:IntKind.i64.wrap ((d:Int)-1)=(d:Int)-1:=AW (by omega) (by omega);have hge:0<=(d:Int):=by omega
  have lR:∀e∈(K8 c.chairs[r] (d+1)).map BF,e.length=1:=fun e he=>by obtain⟨l,_,rfl⟩:=bp.1 he;rfl
  clear hst g7';generalize (K8 c.chairs[r] 0).map BF=fin at *;generalize (K8 c.chairs[r] (d+1)).map BF=R at *;generalize hq:(c.chairs[r])[d]=q at *;rw[AB];simp only[AF]at ih|-;cases R with
  |nil=>cases B<;>cases M<;>cases C<;>(simp[BF,LF]at ih ha;simp[hr,hd',hge,w2,hq,AS,lb,BF,ha,ih,LF])
  |cons x R=>
   have lR2:=lR x (by simp)
   have lR3:=eq_true (fun e he=>lR e (bb x he):∀e∈R,e.length=1)
   cases B<;>cases M<;>cases C<;>(simp[BF,LF]at ih ha;simp[hr,hd',hge,w2,hq,AS,lb,BF,ha,ih,LF,lR2,lR3])
theorem AQN{k:Nat}{l:List Bool}(h:k<=10000):BV cd 97 k [AS l]=true:=by rw[BS (by simp) (by simp)];simp[maxLen,AS];omega
theorem AC2(l:List Bool):K8 l 0=l.reverse:=by simp[K8]
theorem yX(l:List Bool):K8 l l.length=[]:=by simp[K8]
theorem AC3(l k:Nat)(x:Option (Nat×AX))(T:Nat):(cz (BC l k x T))∘AQ=AQ:=by funext l;cases T<;>simp[AQ,BC]
theorem AC4(l k:Nat)(x:Option (Nat×AX))(T:Nat):(cz (BC l k x T))∘AJ=AJ:=by funext l;cases T<;>simp[AJ,BC]
theorem AC5(l k:Nat)(x:Option (Nat×AX))(T:Nat):(cz (BC l k x T))∘AM=AM:=by funext l;cases T<;>simp[AM,BC]
set_option maxHeartbeats 1000000 in
theorem ANT(c:AR)(hc:B7 c)(Z:List V)(F S:List Int)(hZ:∀o,Z.map (BC 0 160 o 3)=Z)(Wl Pl:List (List Int))(Bl Ml:List (Int×Int))(g1 g2 γw γp γb γn:Nat):∀(d r cc γc:Nat),r+d=c.chairs.length->3<cc->∃(c' γc':Nat) (fr:Fr),cc<=c'/\BD fr 2=some (true,.ptr 0 2 1 0)/\BD fr 3=some (true,.ptr 0 3 2 0)/\∀n m,d<m ->
  BJ (AE cd ann kn (n+1700) 168) TD (ann 168 (B9 TD)) m ⟨cc,[(1,true,.ptr 0 1 0 0),(2,true,.ptr 0 2 1 0),(3,true,.ptr 0 3 2 0),(5,true,i (c.beach.places-1)),(11,true,i r)],
   ⟨[],(1,0,.box (AF c)) :: (2,1,.box Z) :: (3,2,cU c F S (.vec 0 65 γw (Wl.map AQ).length) (pv 106 γb (Bl.map AM)) (pv 135 γn (Ml.map AM)) (.vec 0 77 γp (Pl.map AQ).length) (pv 165 γc (((c.chairs.take r).map bq).map AS)) g1 g2) :: (24,g1,.vec 3 (F.map AJ)) :: (28,g2,.vec 3 (S.map AJ)) :: (65,γw,.vec 22 (Wl.map AQ)) :: (77,γp,.vec 22 (Pl.map AQ)) :: (pl 106 γb 59 (Bl.map AM)++(pl 135 γn 188 (Ml.map AM)++pl 165 γc 97 (((c.chairs.take r).map bq).map AS)))⟩⟩ =
   some (.exit 6,⟨c',fr,⟨[],(1,0,.box (AF c))::(2,1,.box Z)::(3,2,cU c F S (.vec 0 65 γw (Wl.map AQ).length) (pv 106 γb (Bl.map AM)) (pv 135 γn (Ml.map AM)) (.vec 0 77 γp (Pl.map AQ).length) (pv 165 γc' ((c.chairs.map bq).map AS)) g1 g2)::(24,g1,.vec 3 (F.map AJ))::(28,g2,.vec 3 (S.map AJ))::(65,γw,.vec 22 (Wl.map AQ))::(77,γp,.vec 22 (Pl.map AQ))::(pl 106 γb 59 (Bl.map AM)++(pl 135 γn 188 (Ml.map AM)++pl 165 γc' 97 ((c.chairs.map bq).map AS)))⟩⟩)
 |0,r,cc,γc,hd,hcc=>by
  obtain rfl:r=c.chairs.length:=by omega
  rw[bm];refine⟨cc,γc,?fr,bn _,?g2,?g3,fun n k hk=>?g9⟩;case g9=>
   obtain⟨k,rfl⟩:∃k',k=k'+1:=⟨k-1,by omega⟩
   generalize (c.chairs.map bq).map AS=R
   rw[AB]
   cases Bl<;>cases Ml<;>cases R<;>simp[AF]
   all_goals rfl
  all_goals simp
 |d+1,r,cc,γc,hd,hcc=>by
  have hr:r<c.chairs.length:=by omega
  have hch:=hc.ch;have hro:=hc.be.ro;have hpl:=hc.be.pl;have hcl:=hc.cr _ (bf hr);have hw:=BW (k:=r) (by omega);have hRl:(((c.chairs.take r).map bq).map AS).length=r:=by rw[bk,bk,bg];omega
  have hst:((c.chairs.take (r+1)).map bq).map AS=((c.chairs.take r).map bq).map AS++[AS (c.chairs[r]).reverse]:=by rw[bj hr,bw,bw];rfl
  have ha:=AQN (k:=(((c.chairs.take r).map bq).map AS).length) (l:=(c.chairs[r]).reverse) (by omega);obtain⟨c1,γr1,f1,h0,h1,h2,h3,h5,h11,h12,q⟩:=ANS c hc r hr Z F S (Wl.map AQ) (Pl.map AQ) (Bl.map AM) (Ml.map AM) (((c.chairs.take r).map bq).map AS) g1 g2 γw γp γb γn γc (c.chairs[r]).length cc 0 (bn _) hcc;have q:=fun n m=>q (n+192) (m+50) (by omega);simp only[show ∀n,n+192+1500=n+1692 from fun n=>by omega]at q;rw[AC2]at h12 q;rw[yX]at q;have e1:((c.chairs[r]).length:Int)-1=c.beach.places-1:=by omega
  rw[e1]at q;have nR:(c.chairs[r]).reverse≠[]:=fun e=>by have:=congrArg cx e;rw[cq,cj]at this;omega
  obtain⟨c',γc',fr,hcc',g2',g3',ih⟩:=ANT c hc Z F S hZ Wl Pl Bl Ml g1 g2 γw γp γb γn d (r+1) (c1+1) c1 (by omega) (by omega);refine⟨c',γc',fr,by omega,g2',g3',fun n m hm=>?_⟩;obtain⟨m,rfl⟩:∃k',m=k'+1:=⟨m-1,by omega⟩;have ih:=ih n m (by omega);rw[hst]at ih;have c2:2<c1:=by omega
  have c4:2<c1+1:=by omega
  have tR:∀o,(((c.chairs.take r).map bq).map AS).map (cz (BC 0 160 o 3))=((c.chairs.take r).map bq).map AS:=fun o=>by rw[List.map_map];exact List.map_congr_left fun x _=>rfl
  have c0:0<c1:=by omega
  have lR:∀e∈((c.chairs.take r).map bq).map AS,e.length=1:=fun e he=>by obtain⟨l,_,rfl⟩:=bp.1 he;rfl
  clear hst e1;generalize (c.chairs.map bq).map AS=fin at *;generalize ((c.chairs.take r).map bq).map AS=R at *;generalize hq:(c.chairs[r]).reverse=q' at *;cases q' with
  |nil=>exact absurd rfl nR
  |cons b0 q'=>
  rw[AB];simp only[AF]at ih q|-;cases R with
  |nil=>cases Bl<;>cases Ml<;>(simp[AS,lb,BF,AM,LF]at ih ha q h12;simp[hr,hw,AM,ha,q,h1,h2,h3,h5,h11,h12,ih,LF,c4,hZ,AC5,AC3,AC4])
  |cons x R=>
   have lR2:=lR x (by simp)
   have lR3:=eq_true (fun e he=>lR e (bb x he):∀e∈R,e.length=1)
   simp only[List.map_cons,List.cons.injEq]at tR
   cases Bl<;>cases Ml<;>(simp[AS,lb,BF,AM,LF]at ih ha q h12;simp[hr,hw,AM,ha,q,h1,h2,h3,h5,h11,h12,ih,LF,c4,hZ,AC5,AC3,AC4,tR,lR2,lR3])
theorem A0O(l k:Nat)(x:Option (Nat×AX))(T:Nat):(cz (BC l k x T))∘AS=AS:=by funext l;cases T<;>simp[AS,BC]
theorem A0P(l k l' k' g m f:Nat):BC l k none f (.vec l' k' g m)=.vec l' k' g m:=by cases f<;>rfl
set_option maxHeartbeats 2000000 in
theorem qS(n:Nat)(c:AR)(hc:B7 c):A5 cd kn (AE cd ann kn (n+2000)) 63 [.agg (AF c)]=some (.agg [i c.beach.last,i c.beach.rows,i c.beach.places,i c.beach.reach,li (BN c.beach.face),li (BN c.beach.sun),J1 (c.beach.winds.map FE),sl ((c.beach.breaks.map (GM c.beach)).map AM),sl ((c.beach.notes.map IW).map AM),J1 (DS c.plan),.list false ((c.chairs.map bq).map AS),.list false (c.fams.map AY)]):=by
 rw[AN rfl,AP Tryz.func63 b63 rfl (by simp[AF,AS,BF,AY])];have hro:=hc.be.ro;have hpl:=hc.be.pl;have hfa:=hc.be.fa;have hsu:=hc.be.su;have hla:=hc.be.la;have hwi:=hc.be.wi;have hbr:=hc.be.br;have hno:=hc.be.no;have hch:=hc.ch;have hpp:=hc.pl;simp only[CP,bx,decide_eq_true_eq]at hpp;have hF:c.beach.face≠[]:=fun e=>by rw[e]at hfa;simp at hfa;omega
 have hS:c.beach.sun≠[]:=fun e=>by rw[e]at hsu;simp at hsu;omega
 have o1:=fun n=>vB n c.beach.face (by omega) (fun x hx=>by have:=vC hc.be.fd x hx;omega) hF;have o2:=fun n=>vB n c.beach.sun (by omega) (fun x hx=>by have:=vC hc.be.sd x hx;omega) hS;have w1:IntKind.i64.wrap (c.beach.places-1)=c.beach.places-1:=AW (by omega) (by omega);have hZ:∀o,[i 0,i 0,i 0,i 0,V.nil,V.nil,V.nil,V.nil,V.nil,V.nil,V.nil,V.nil].map (BC 0 160 o 3)=[i 0,i 0,i 0,i 0,V.nil,V.nil,V.nil,V.nil,V.nil,V.nil,V.nil,V.nil]:=fun o=>rfl;obtain⟨c1,γw,γp,f1,k1,a1,a2,a3,a4,a5,p1⟩:=A0M c hc [i 0,i 0,i 0,i 0,.nil,.nil,.nil,.nil,.nil,.nil,.nil,.nil] (BN c.beach.face) (BN c.beach.sun) 3 4 c.beach.winds.length 0 5 0 0 (by omega) (by omega);obtain⟨c2,γb,f2,k2,b1,b2,b3,b4,b5,p2⟩:=ANQ c hc [i 0,i 0,i 0,i 0,.nil,.nil,.nil,.nil,.nil,.nil,.nil,.nil] (BN c.beach.face) (BN c.beach.sun) ((c.beach.winds.map FE).map AQ) ((DS c.plan).map AQ) 3 4 γw γp c.beach.breaks.length 0 c1 0 (by omega) (by omega);obtain⟨c3,γn,f3,k3,d1,d2,d3,d5,p3⟩:=ANR c hc [i 0,i 0,i 0,i 0,.nil,.nil,.nil,.nil,.nil,.nil,.nil,.nil] (BN c.beach.face) (BN c.beach.sun) ((c.beach.winds.map FE).map AQ) ((DS c.plan).map AQ) ((c.beach.breaks.map (GM c.beach)).map AM) 3 4 γw γp γb c.beach.notes.length 0 c2 0 (by omega) (by omega);obtain⟨c4,γc,f4,k4,e2,e3,p4⟩:=ANT c hc [i 0,i 0,i 0,i 0,.nil,.nil,.nil,.nil,.nil,.nil,.nil,.nil] (BN c.beach.face) (BN c.beach.sun) hZ (c.beach.winds.map FE) (DS c.plan) (c.beach.breaks.map (GM c.beach)) (c.beach.notes.map IW) 3 4 γw γp γb γn c.chairs.length 0 c3 0 (by omega) (by omega);have q1:=p1 (n+490) (n+1990) (by omega);rw[show n+490+1500=n+1990 by omega]at q1;have q2:=p2 (n+489) (n+1989) (by omega);rw[show n+489+1500=n+1989 by omega]at q2;have q3:=p3 (n+488) (n+1988) (by omega);rw[show n+488+1500=n+1988 by omega]at q3;have q4:=p4 (n+287) (n+1987) (by omega);rw[show n+287+1700=n+1987 by omega]at q4;clear p1 p2 p3 p4;have nW:c.beach.winds.map FE≠[]:=fun e=>by have:=congrArg cx e;rw[bk,cj]at this;omega
 have nC:c.chairs.map bq≠[]:=fun e=>by have:=congrArg cx e;rw[bk,cj]at this;omega
 have nP:DS c.plan≠[]:=fun e=>by have:=congrArg cx e;rw[DS,bk,cj]at this;omega
 rw[cw,cw]at q1;rw[cw]at q2 q3 q4;generalize (c.beach.winds.map FE)=Wl at *;generalize DS c.plan=Pl at *;generalize c.beach.breaks.map (GM c.beach)=Bl at *;generalize c.beach.notes.map IW=Ml at *;generalize c.chairs.map bq=Cl at *;generalize (BN c.beach.face)=F at *;generalize (BN c.beach.sun)=S at *;cases Wl with
 |nil=>exact absurd rfl nW
 |cons w Wl=>
 cases Pl with
 |nil=>exact absurd rfl nP
 |cons p Pl=>
 simp only[AF]at q1 q2 q3 q4|-;simp[DS,LF,AQ]at q1;simp[AQ]at q2 q3 q4;have h14:1<c4:=by omega
 cases Cl with
 |nil=>exact absurd rfl nC
 |cons r Cl=>
 cases Bl <;> cases Ml <;> (
  simp[AM,AS,LF]at q2 q3 q4
  simp[c63,AD,AQ,AM,AS,BF,AY,li,J1,lb,o1,o2,w1,q1,a1,a2,a3,a4,a5,q2,b1,b2,b3,b4,b5,q3,d1,d2,d3,d5,q4,e2,e3,JF,CE,DV,JG,GS,AC3,AC4,AC5,A0O,A0P,h14]
  first | rfl | exact⟨rfl,rfl⟩)
section
variable (c:AR)(hc:B7 c)(s:List (List Int))(hs:ACZ c s)(G:List (Nat×Int))(hG:G.length<=10)(hf:∀g∈G,g.1<c.fams.length/\1<=g.2/\g.2<=4)(out:List (Int×Int))(hl:out.length<G.length)(ho:∀x∈out,0<=x.2/\x.2<=1000)(rec:List (Int×Int)->Bool)(K:Nat)
 (hrec:∀x:Int×Int,0<=x.2->x.2<=1000->∀j n,A5 cd kn (AE cd ann kn (n+K+j)) 133 [.agg (AF c),J1 s,.list false (G.map BL),.list false ((out++[x]).map AM)]=some (.bool (rec (out++[x]))))
include hc hs hG hf hl ho hrec
end
theorem ANU(A B:List Int)(hl:A.length=B.length)(hb:A.length<=100)(cc:Nat):∀(d k:Nat),k+d=A.length->∃fr,∀n m,d<m ->
  BJ (AE cd ann kn (n+100) 26) Y4 (ann 26 (B9 Y4)) m ⟨cc,[(0,true,li A),(1,true,li B),(5,true,i k)],⟨[],[]⟩⟩ =
   if A.drop k=B.drop k then some (.exit 0,⟨cc,fr,⟨[],[]⟩⟩) else some (.ret,⟨cc,[(4,true,.bool false)],⟨[],[]⟩⟩)
 |0,k,hd=>by
  have hk:k=A.length:=by omega
  have hnot:¬k<A.length:=by omega
  refine⟨?fr,fun n m hm=>?g⟩;case g=>
   obtain⟨m,rfl⟩:=qNz m (by omega)
   rw[if_pos (by rw[ck (by omega),ck (by omega)])]
   simp[AB,hnot]
   rfl
 |d+1,k,hd=>by
  have hk:k<A.length:=by omega
  have hk2:k<B.length:=by omega
  have hw:=BW (k:=k) (by omega);obtain⟨fr,ih⟩:=ANU A B hl hb cc d (k+1) (by omega);refine⟨fr,fun n m hm=>?_⟩;obtain⟨m,rfl⟩:=qNz m (by omega);have ih:=ih n m (by omega);rw[bh hk,bh hk2,AB];by_cases e:A[k]=B[k]
  ·have he:(A[k]::A.drop (k+1)=B[k]::B.drop (k+1))↔A.drop (k+1)=B.drop (k+1):=by rw[e];exact⟨fun h=>(List.cons.inj h).2,fun h=>by rw[h]⟩
   simp only[he];simp at ih;simp[hk,hk2,hw,AJ,e,ih]
  ·rw[if_neg fun hh=>e (List.cons.inj hh).1];simp[hk,hk2,AJ,e]
theorem ANV(n:Nat)(A B:List Int)(hb:A.length<=100):A5 cd kn (AE cd ann kn (n+300)) 44 [li A,li B]=some (.bool (decide (A=B))):=by
 rw[AN rfl,AP Tryz.func44 b44 rfl (by simp)];by_cases hl:A.length=B.length
 ·obtain⟨fr,q⟩:=ANU A B hl hb 0 A.length 0 (by omega);have q:=fun n m=>q n (m+150) (by omega);rw[List.drop_zero,List.drop_zero]at q;have hlI:(A.length:Int)=(B.length:Int):=by omega
  by_cases h:A=B
  ·rw[if_pos h]at q;rw[decide_eq_true h];simp at q;simp[c44,AD,hl,q]
  ·rw[if_neg h]at q;rw[decide_eq_false h];simp at q;simp[c44,AD,hl,q]
 ·have hlI:¬(A.length:Int)=(B.length:Int):=by omega
  rw[decide_eq_false fun h=>hl (by rw[h])];simp[c44,AD,hlI]
end Go.Proofs.Tryz.Op
