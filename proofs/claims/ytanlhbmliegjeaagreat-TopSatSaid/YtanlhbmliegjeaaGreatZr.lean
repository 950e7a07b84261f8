/- The law walk TopSat. No condition. -/
import Derived.Test.YtanlhbmliegjeaaGreatA3
import Derived.Test.YtanlhbmliegjeaaGreatC2
open Go.Proofs.Tryz renaming prog->bh
open List renaming getElem?_eq_getElem->bj,take_succ_eq_append_getElem->bk,length_map->bq,mem_of_mem_take->bw,sum_append->bx,take_length->bz,getElem_mem->bb,length_take->bc,map_append->bf,mem_map->bg
set_option maxRecDepth 100000
set_option linter.unusedSimpArgs false
open Go Go.Pg Go.Proofs Go.Wind
namespace Go.Proofs.Tryz.Op
theorem TC(n:Nat)(d:Option Tmp)(st:XS):GH (BH bh ann kn n) d st 6 []=DT d st (some (.bool true)):=by rw[bD d rfl (by simp)];rfl
theorem tC{b:AL}(h:VZ b=true):b.face.length<=100/\b.sun.length<=100/\b.winds.length<=100/\(∀l∈b.winds,l.length<=40)/\b.breaks.length<=100/\b.notes.length<=100:=by simp only[VZ,Bool.and_eq_true,Bool.not_eq_true',Bool.or_eq_false_iff,Bool.not_eq_false',decide_eq_false_iff_not]at h;obtain⟨⟨⟨⟨⟨h1,h2⟩,h3⟩,h4⟩,h5⟩,_⟩:=h;obtain⟨h6,h7⟩:=U2 h3;exact⟨by omega,by omega,by omega,fun l hl=>by have:=h7 l hl;omega,by omega,by omega⟩
theorem AKW(k:IntKind)(n:Int):MM bh 32 3 (.int k n)=some (.int .i64 (IntKind.i64.wrap n)):=by kernel_rfl
theorem AKX(t:List Int)(h:t.length<=1000)(b:Bool):J5 bh 22 (.list true []) (.list b (t.map AH))=some (.list false (t.map AH)):=by
 have he:BO bh 22=some (none,3):=by kernel_rfl
 have hz:YZ bh 3=true:=by kernel_rfl
 have hc:bh.cellsOf 3=1:=by kernel_rfl
 have hb:bh.bytesOf 3=8:=by kernel_rfl
 unfold J5;rw[he];show(if _ then _ else _)=_;rw[if_pos];refine⟨hz,?_,?_,?_⟩
 ·rw[hc];simp[AH]
 ·rw[bq];show t.length<=9223372036854775807;omega
 ·rw[hb,bq];omega
theorem tD{t c:Nat}{fr:Fr}{s:St}{b:Bool}{es:List (List V)}(h:BQ fr t=some (true,.list b es)):S4 (some t) ⟨c,fr,s⟩=⟨c,fr,s⟩:=by unfold S4;simp only[h]
theorem AGX{l:List Int}{k:Nat}(hk:k<l.length):(l.take (k+1)).sum=(l.take k).sum+l[k]:=by rw[bk hk,bx];simp
theorem WS{l:List Int}{m:Int}(h:∀x∈l,0<=x/\x<=m):0<=l.sum/\l.sum<=l.length*m:=by
 induction l with
 |nil=>simp
 |cons a l ih=>
  have h1:=h a (by simp)
  have h2:=ih fun x hx=>h x (by simp[hx])
  rw[List.sum_cons,List.length_cons,Int.natCast_succ,Int.add_mul,Int.one_mul]
  omega
theorem AOQ(CS:List V)(lo hi sun:Int)(HV:V)(ps:List Int)(h10:ps.length<=10)(hps:∀x∈ps,0<=x/\x<=100):∀(d k:Nat),k+d=ps.length->∀n m,d<m ->
  BG (AE bh ann kn (n+100) 180) fK (some ([6,11,13,15,17,18,19],[2,11,33,34,48,60,62,69,72,75,76,82,84,88,89])) m ⟨3,[(6,true,i sun),(11,true,.ptr 0 11 1 0),(13,true,sl (ps.map AH)),(15,true,HV),(17,true,i (ps.take k).sum),(18,true,i 0),(19,true,i k)],⟨[],[(2,0,.box CS),(11,1,.box [i lo,i hi]),(72,2,.dead)]⟩⟩ =
  some (.exit 0,⟨3,[(113,true,.bool false),(112,true,i ps.length),(111,true,sl (ps.map AH)),(110,true,i ps.length),(6,true,i sun),(11,true,.ptr 0 11 1 0),(13,true,sl (ps.map AH)),(15,true,HV),(17,true,i ps.sum),(18,true,i 0),(19,true,i ps.length)],⟨[],[(2,0,.box CS),(11,1,.box [i lo,i hi]),(72,2,.dead)]⟩⟩)
 |0,k,hd,n,m,hm=>by
  obtain rfl:k=ps.length:=by omega
  obtain⟨m,rfl⟩:=qNz m (by omega);rw[AC,bz];simp;done
 |d+1,k,hd,n,m,hm=>by
  have hk:k<ps.length:=by omega
  obtain⟨m,rfl⟩:=qNz m (by omega);have ih:=AOQ CS lo hi sun HV ps h10 hps d (k+1) (by omega) n m (by omega);have hw:=BS (k:=k) (by omega);have hkn:ps[k]? = some ps[k]:=bj hk;have hb:=WS (l:=ps.take k) fun x hx=>hps x (bw hx);have hx:=hps _ (bb hk);have hl:(ps.take k).length<=10:=by rw[bc];omega
  have hws:IntKind.i64.wrap ((ps.take k).sum+ps[k])=(ps.take k).sum+ps[k]:=AW (by omega) (by omega);have hne:ps≠[]:=fun e=>by rw[e]at hk;cases hk
  rw[AGX hk]at ih;rw[slX hne]at ih|-;rw[AC];simp at ih;simp[hk,hkn,hw,hws,AH,ih];done
def GC(l:List IY):Int:=(l.map IY.good).sum
theorem AOR(CS:List V)(lo hi sun s17 S0:Int)(h0:0<=S0/\S0<=10000)(H:List (List IY))(r:Nat)(hr:r<H.length)(hl:H[r].length<=10)(hH:∀x∈H[r],0<=x.good/\x.good<=100):∀(d k:Nat),k+d=H[r].length->∃fr,(BQ fr 6=some (true,i sun)/\BQ fr 11=some (true,.ptr 0 11 1 0)/\BQ fr 15=some (true,.list false (H.map CR))/\BQ fr 17=some (true,i s17)/\BQ fr 18=some (true,i (S0+GC H[r]))/\BQ fr 20=some (true,i r))/\∀n m,d<m ->
  BG (AE bh ann kn (n+100) 180) YG (ann 180 (BX YG)) m ⟨3,[(6,true,i sun),(11,true,.ptr 0 11 1 0),(15,true,.list false (H.map CR)),(17,true,i s17),(18,true,i (S0+GC (H[r].take k))),(20,true,i r),(21,true,i k)],⟨[],[(2,0,.box CS),(11,1,.box [i lo,i hi]),(72,2,.dead)]⟩⟩ =
  some (.exit 4,⟨3,fr,⟨[],[(2,0,.box CS),(11,1,.box [i lo,i hi]),(72,2,.dead)]⟩⟩)
 |0,k,hd=>by
  obtain rfl:k=H[r].length:=by omega
  rw[bz];refine⟨?fr,?g1,fun n m hm=>?g9⟩;case g9=>
   obtain⟨m,rfl⟩:=qNz m (by omega)
   have hrn:H[r]? = some H[r]:=bj hr
   rw[AC]
   simp[hr,hrn,CR]
   rfl
  all_goals simp
 |d+1,k,hd=>by
  have hk:k<H[r].length:=by omega
  obtain⟨fr,e,ih⟩:=AOR CS lo hi sun s17 S0 h0 H r hr hl hH d (k+1) (by omega);refine⟨fr,e,fun n m hm=>?_⟩;obtain⟨m,rfl⟩:=qNz m (by omega);have ih:=ih n m (by omega);have hw:=BS (k:=k) (by omega);have hrn:H[r]? = some H[r]:=bj hr;have hkn:H[r][k]? = some H[r][k]:=bj hk;have hx:=hH _ (bb hk);have hb:0<=GC (H[r].take k)/\GC (H[r].take k)<=((H[r].take k).map IY.good).length*100:=WS fun x hx=>by obtain⟨y,hy,rfl⟩:=bg.1 hx;exact hH y (bw hy)
  rw[bq,bc]at hb;have hs:GC (H[r].take (k+1))=GC (H[r].take k)+H[r][k].good:=by unfold GC;rw[bk hk,bf,bx];simp
  have hws:IntKind.i64.wrap (S0+GC (H[r].take k)+H[r][k].good)=S0+GC (H[r].take k)+H[r][k].good:=AW (by omega) (by omega);rw[hs,<-Int.add_assoc]at ih;generalize GC (H[r].take k)=GT at *;rw[AC];simp at ih;simp[hr,hrn,hk,hkn,hw,hws,CR,DS,ih];done
def U5(H:List (List IY)):Int:=(H.map GC).sum
theorem AGY{l:List IY}(hl:l.length<=10)(h:∀x∈l,0<=x.good/\x.good<=100):0<=GC l/\GC l<=1000:=by
 have hb:0<=GC l/\GC l<=(l.map IY.good).length*100:=WS fun x hx=>by obtain⟨y,hy,rfl⟩:=bg.1 hx;exact h y hy
 rw[bq]at hb;omega
theorem AOS(CS:List V)(lo hi sun s17:Int)(H:List (List IY))(h5:H.length<=5)(hl:∀l∈H,l.length<=10)(hH:∀l∈H,∀x∈l,0<=x.good/\x.good<=100):∀(d r:Nat),r+d=H.length->∃fr,(BQ fr 6=some (true,i sun)/\BQ fr 11=some (true,.ptr 0 11 1 0)/\BQ fr 17=some (true,i s17)/\BQ fr 18=some (true,i (U5 H)))/\∀n m,d<m ->
  BG (AE bh ann kn (n+200) 180) YH (ann 180 (BX YH)) m ⟨3,[(6,true,i sun),(11,true,.ptr 0 11 1 0),(15,true,.list false (H.map CR)),(17,true,i s17),(18,true,i (U5 (H.take r))),(20,true,i r)],⟨[],[(2,0,.box CS),(11,1,.box [i lo,i hi]),(72,2,.dead)]⟩⟩ =
  some (.exit 2,⟨3,fr,⟨[],[(2,0,.box CS),(11,1,.box [i lo,i hi]),(72,2,.dead)]⟩⟩)
 |0,r,hd=>by
  obtain rfl:r=H.length:=by omega
  rw[bz];refine⟨?fr,?g1,fun n m hm=>?g9⟩;case g9=>
   obtain⟨m,rfl⟩:=qNz m (by omega)
   rw[AC]
   simp
   rfl
  all_goals simp
 |d+1,r,hd=>by
  have hr:r<H.length:=by omega
  obtain⟨fr,e,ih⟩:=AOS CS lo hi sun s17 H h5 hl hH d (r+1) (by omega);have hb:0<=U5 (H.take r)/\U5 (H.take r)<=((H.take r).map GC).length*1000:=WS fun x hx=>by obtain⟨y,hy,rfl⟩:=bg.1 hx;have hy:=bw hy;exact AGY (hl y hy) (hH y hy)
  rw[bq,bc]at hb;have hm1:=bb hr;obtain⟨fr2,e2,q⟩:=AOR CS lo hi sun s17 (U5 (H.take r)) (by omega) H r hr (hl _ hm1) (hH _ hm1) H[r].length 0 (by omega);refine⟨fr,e,fun n m hm=>?_⟩;obtain⟨m,rfl⟩:=qNz m (by omega);have ih:=ih n m (by omega);have hw:=BS (k:=r) (by omega);have hs:U5 (H.take (r+1))=U5 (H.take r)+GC H[r]:=by unfold U5;rw[bk hr,bf,bx];simp
  rw[hs]at ih;have h10:=hl _ hm1;have q:=fun n k=>q n (k+11) (by omega);have hz:GC ([]:List IY)=0:=rfl;rw[List.take_zero,hz,Int.add_zero]at q;generalize U5 (H.take r)+GC H[r]=TS at *;generalize U5 (H.take r)=T0 at *;have ih:=ih;rw[AC];simp at ih q;simp[hr,hw,e2,q,ih];done
theorem Q6(f:Nat->Int):∀n,((List.range n).map f).sum=BZ f n
 |0=>rfl
 |n+1=>by rw[List.range_succ,bf,bx,Q6 f n];simp[BZ]
theorem AA5(b:AL)(plan:List (List Int))(t:List Int):U5 (D6 b plan t b.rows.toNat)=fP b plan t:=by unfold U5 D6;rw[List.map_map,Q6];refine D0 fun r _=>?_;show GC (P1 b plan t r)=_;unfold GC P1;rw[List.map_map,Q6];rfl
set_option maxHeartbeats 4000000 in
theorem AKY(n:Nat)(c:A0)(_:okC c)(w:Nat)(hw:w<=65535):KD bh (AE bh ann kn (n+9990)) 3 [.agg (AF c),.int .u16 w]=some (.bool true):=by
 rw[AQ Tryz.func3 b3 rfl (by simp[AF,AH,AN,AM,AS,BD,AU])];have qT:=fun n=>AO5 n c;cases hT:cZ c with
 |false=>
  rw[hT]at qT
  simp only[AF]at qT|-
  simp[c3,AD,qT,AH,AN,AM,AS,BD,AU,TC]
 |true=>
 rw[hT]at qT;obtain⟨t1,t2,t3,t4,t5,t6⟩:=W4 hT;obtain⟨l1,l2,l3,l4,l5,l6⟩:=tC t1;have qF:=fun n=>AHJ n c (fun l hl=>by have:=l4 l hl;omega) (by omega) (by omega);by_cases h0:EQ c=0
 ·rw[h0]at qF;have hc:=K9 h0;have qC:=fun n=>AO8 n c hT;have qB:=fun n=>AO4 n c l4 (by omega);unfold TI at qB;rw[if_neg (by simp[h0])]at qB;cases hO:KQ c with
  |none=>
   rw[hO]at qB
   simp only at qB
   simp only[AF,WB,IG]at qT qF qC qB|-
   simp[c3,AD,qT,qF,qC,qB,AH,AN,AM,AS,BD,AU,TC]
  |some q=>
   rw[hO]at qB
   simp only at qB
   have qR:=fun n=>dA n c.beach hc.be
   have qX:=fun n=>AKO n hc.be
   have qW:=fun n=>AUJ n c.beach l4 c.plan
   have hd:(EU c.beach [] c.beach.winds []).isEmpty=false:=by
    have:=WV hc;cases h:EU c.beach [] c.beach.winds []with
    |nil=>exact absurd h this
    |cons a l=>rfl
   unfold iQ at qW
   rw[if_pos (IX hc.be),if_pos hc.pl,if_neg (by rw[hd];decide)]at qW
   have hlen:0<(BC c.beach).length:=List.length_pos_iff.2 hc.tr
   have hk:=Nat.mod_lt w hlen
   have e2:(w:Int).tmod ((BC c.beach).length:Int)=((w % (BC c.beach).length:Nat):Int):=(Int.ofNat_tmod _ _).symm
   have wk:IntKind.i64.wrap (w:Int)=(w:Int):=AW (by omega) (by omega)
   obtain⟨t,hkn⟩:∃t,(BC c.beach)[w % (BC c.beach).length]? = some t:=⟨_,bj hk⟩
   have ht:t∈BC c.beach:=List.mem_of_getElem? hkn
   have hkt:(BC c.beach)[w % (BC c.beach).length]=t:=(List.getElem?_eq_some_iff.1 hkn).2
   have htl:=TW hc.be ht
   have hlist:=RV ht
   obtain⟨g1,g2,g3,g4,g5,g6,g7⟩:=AHD h0 hO ht
   have qP:=fun n=>AOY n c l4 (by omega) (q.1.map iS) t
   unfold tT at qP
   rw[if_neg (by simp[h0]),if_pos ⟨g1,hlist⟩]at qP
   have qH:=fun n=>AGE n c.beach l4 c.plan t
   unfold oH at qH
   rw[if_neg (by simp[IX hc.be]),if_pos ⟨hc.pl,hlist⟩]at qH
   rw[slX hc.tr]at qR
   have hsl:=(JN hc g1).1
   have hfl:=hc.fl
   obtain⟨o1,o2,o3⟩:=fH hc t htl
   have hro:=hc.be.ro
   have hplc:=hc.be.pl
   have hHn:D6 c.beach c.plan t c.beach.rows.toNat≠[]:=fun e=>by rw[show JW c t=D6 c.beach c.plan t c.beach.rows.toNat from rfl,e]at o1;simp at o1;omega
   rw[<-AA5]at g5 g6 g7
   have hpl:((BF c (q.1.map iS)).map (G4 (JW c t))).length=c.fams.length:=by rw[bq];exact FQ hsl
   have hps:∀y∈(BF c (q.1.map iS)).map (G4 (JW c t)),0<=y/\y<=100:=by
    rw[WX hc g1];intro y hy;obtain⟨x,hx,rfl⟩:=bg.1 hy;have h1:=HA (f:=fun p=>(B7 c.beach c.plan t x.row.toNat (x.place.toNat+p)).good) (c:=5) (n:=x.size.toNat) fun p _=>by obtain⟨_,_,_,_,u5,u6⟩:=O5 c.beach c.plan t x.row.toNat (x.place.toNat+p);omega
    have h2:=((JN hc g1).2 x hx).2.2.2.1;have h3:(0:Int)<=bQ (fun r p=>(B7 c.beach c.plan t r p).good) x/\bQ (fun r p=>(B7 c.beach c.plan t r p).good) x<=x.size.toNat*5:=h1;omega
   generalize q.1.map iS=ss at *
   generalize (BF c ss).map (G4 (JW c t))=ps at *
   generalize MJ c.beach (DZ c.beach) c.plan=LH at *
   obtain⟨lo,hi⟩:=LH
   generalize w % (BC c.beach).length=k at *
   have hLl:((BC c.beach).map AN).length=(BC c.beach).length:=bq _
   have hlen0:¬(BC c.beach).length=0:=by omega
   have a1:CG bh 87 0 (ss.map AM)=true:=by rw[C3 (by simp) (by simp)];simp[maxLen,AM];omega
   have hS:=AKX t (by omega)
   have htl2:=fun c fr (s:St) h=>tD (t:=88) (c:=c) (fr:=fr) (s:=s) (b:=false) (es:=t.map AH) h
   have htk:List.take ss.length (ss.map AM)=ss.map AM:=List.take_of_length_le (by rw[bq];exact Nat.le_refl _)
   have hti:=fun fr (L:AA) h=>zY (t:=72) (c:=3) (l:=0) (q:=72) (γ:=2) (n:=ss.length) (fr:=fr) (s:=⟨[],(72,2,.vec 87 (ss.map AM))::L⟩) (U:=87) (es:=ss.map AM) h (by simp) (by simp) (by omega)
   simp only[AF,WB,IG,AB]at qT qF qC qB qX qW qP qH qR|-
   generalize BC c.beach=TT at *
   simp[c3,AD,qT,qF,qC,qB,qR,qX,qW,qP,qH,AKW,wk,e2,hk,hkn,hkt,hlen0,a1,hS,hti,htk,htl2,hpl,ED,IL,A2,B8,CL,BM,F3,FD,AH,AN,AM,AS,BD,AU,FP,TC]
   have q15:=AOQ (AF c) lo hi q.2.sun (sl ((D6 c.beach c.plan t c.beach.rows.toNat).map CR)) ps (by omega) hps ps.length 0 (by omega) (n+9875) (n+9975) (by omega)
   simp only[AF]at q15
   simp at q15
   rw[q15,slX hHn]
   simp only[JW]at o1 o2 o3
   generalize D6 c.beach c.plan t c.beach.rows.toNat=H at *
   obtain⟨fr,⟨e6,e11,e17,e18⟩,q19⟩:=AOS (AF c) lo hi q.2.sun ps.sum H (by omega) (fun l hl=>by have:=o2 l hl;omega) (fun l hl x hx=>by have:=o3 l hl x hx;omega) H.length 0 (by omega)
   have q19:=q19 (n+9774) (n+9974) (by omega)
   have hz:U5 ([]:List (List IY))=0:=rfl
   rw[List.take_zero,hz]at q19
   simp only[AF]at q19
   simp at q19
   simp[q19,e6,e11,e17,e18,g2,g3,g4,g5,g6,g7,TC]
   done
 ·simp only[AF]at qT qF|-;simp[c3,AD,qT,qF,h0,AH,AN,AM,AS,BD,AU,TC]
end Go.Proofs.Tryz.Op
