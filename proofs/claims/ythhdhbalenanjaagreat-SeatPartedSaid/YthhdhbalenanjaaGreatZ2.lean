/- The contract of the law's some: a case without some families. No condition but few of them. -/
import Derived.Test.YthhdhbalenanjaaGreatAp
import Derived.Test.YthhdhbalenanjaaGreatZ1
import Derived.Test.YthhdhbalenanjaaGreatC3
open Go.Proofs.Tryz renaming prog->bx
open List renaming range->bj,getElem?_eq_getElem->bk,length_filter_le->bq,length_range->bw
set_option maxRecDepth 100000
set_option linter.unusedSimpArgs false
open Go Go.Pg Go.Proofs Go.Wind
namespace Go.Proofs.Tryz.Op
def IV(x:Nat)(c:AV)(k:Nat):List TU:=(EV k (F0 x c.fams.length)).map (BR c)
theorem qY{x:Nat}{c:AV}{k:Nat}(hk:k<c.fams.length):IV x c (k+1)=IV x c k++if x.testBit k=true then[] else[BR c k]:=by
 unfold IV;rw[W5,List.map_append];by_cases h:x.testBit k=true
 ·rw[if_pos h,if_pos (bX.2 ⟨hk,h⟩)];rfl
 ·rw[if_neg h,if_neg fun hh=>h (bX.1 hh).2];rfl
theorem qZ(x:Nat)(c:AV)(hl:c.fams.length<=30)(Z:List V):∀(d j cc γ:Nat),j+d=c.fams.length->3<=cc->∃(c' γ':Nat) (fr:Fr),3<=c'/\BS fr 4=some (true,.ptr 0 4 1 0)/\BS fr 5=some (true,.ptr 0 5 2 0)/\∀n m,d<m ->
  BM (AF bx ann kn (n+100) 33) XK (ann 33 (B0 XK)) m ⟨cc,[(1,true,i x),(2,true,.ptr 0 2 0 0),(4,true,.ptr 0 4 1 0),(5,true,.ptr 0 5 2 0),(6,true,i j)],
   ⟨[],(2,0,.box (AG c)) :: (4,1,.box Z) :: (5,2,.box [i c.beach.last,i c.beach.rows,i c.beach.places,i c.beach.reach,li c.beach.face,li c.beach.sun,JA c.beach.winds,.list false (c.beach.breaks.map AL),.list false (c.beach.notes.map AL),JA c.plan,.list false (c.chairs.map AU),pv 30 γ ((IV x c j).map AR)]) :: pl 30 γ 57 ((IV x c j).map AR)⟩⟩ =
   some (.exit 0,⟨c',fr,⟨[],(2,0,.box (AG c))::(4,1,.box Z)::(5,2,.box [i c.beach.last,i c.beach.rows,i c.beach.places,i c.beach.reach,li c.beach.face,li c.beach.sun,JA c.beach.winds,.list false (c.beach.breaks.map AL),.list false (c.beach.notes.map AL),JA c.plan,.list false (c.chairs.map AU),pv 30 γ' ((IV x c c.fams.length).map AR)])::pl 30 γ' 57 ((IV x c c.fams.length).map AR)⟩⟩)
 |0,j,cc,γ,hd,hc=>by
  have hj:j=c.fams.length:=by omega
  subst hj;refine⟨cc,γ,?fr,hc,?g1,?g2,fun n m hm=>?g3⟩;case g3=>
   obtain⟨m,rfl⟩:=qNz m (by omega)
   simp[AB,AG]
   rfl
  all_goals simp
 |d+1,j,cc,γ,hd,hc=>by
  have hj:j<c.fams.length:=by omega
  have e1:=AS4 (x:=x) (j:=j) (by omega);have e2:=dS (p:=j) (by omega);have hb:=zY x j;have hw:=B5 (k:=j) (by omega);have hfj:c.fams[j]'hj=BR c j:=by simp[BR,bk hj]
  have hlen:(IV x c j).length<=j:=by unfold IV EV;rw[List.length_map];have:=bq (fun k:Nat=>!decide ((k:Int)∈F0 x c.fams.length)) (bj j);rw[bw]at this;exact this
  generalize ((x / 2 ^ j:Nat):Int)=X at e1 hb;have hds:=qY (x:=x) hj;cases hbit:x.testBit j with
  |true=>
   rw[hbit]at hb
   obtain⟨c',γ',fr,hc',g4,g5,ih⟩:=qZ x c hl Z d (j+1) cc γ (by omega) hc
   refine⟨c',γ',fr,hc',g4,g5,fun n m hm=>?_⟩
   obtain⟨m,rfl⟩:=qNz m (by omega)
   have ih:=ih n m (by omega)
   rw[hds,if_pos hbit,List.append_nil]at ih
   rw[AB]
   generalize IV x c j=D at *
   generalize IV x c c.fams.length=D' at *
   simp only[AG]at ih|-
   simp at ih
   simp[hj,gE,e2,e1,-aI,hb,hw,ih]
  |false=>
   rw[hbit]at hb
   obtain⟨c',γ',fr,hc',g4,g5,ih⟩:=qZ x c hl Z d (j+1) (cc+1) cc (by omega) (by omega)
   refine⟨c',γ',fr,hc',g4,g5,fun n m hm=>?_⟩
   obtain⟨m,rfl⟩:=qNz m (by omega)
   have ih:=ih n m (by omega)
   rw[hds,if_neg (by rw[hbit];decide)]at ih
   have happ:B9 bx 57 (IV x c j).length [AR (BR c j)]=true:=by rw[CQ (by simp[AR]) (by simp)];simp[maxLen,AR];omega
   have hg1:2<cc+1:=by omega
   have hg2:2<cc:=by omega
   rw[AB]
   generalize IV x c j=D at *
   generalize IV x c c.fams.length=D' at *
   simp only[AG]at ih|-
   simp[AR]at ih happ
   simp[hj,hfj,gE,e2,e1,-aI,hb,hw,happ,AR,DV,HO,hg1,hg2,ih]
theorem ATI(n x:Nat)(c:AV)(hl:c.fams.length<=30):A8 bx kn (AF bx ann kn (n+300)) 60 [.agg (AG c),i x]=some (.agg [i c.beach.last,i c.beach.rows,i c.beach.places,i c.beach.reach,li c.beach.face,li c.beach.sun,JA c.beach.winds,.list false (c.beach.breaks.map AL),.list false (c.beach.notes.map AL),JA c.plan,.list false (c.chairs.map AU),sl ((D5 c (F0 x c.fams.length)).fams.map AR)]):=by
 rw[AP rfl,AQ Tryz.func60 b60 rfl (by simp[AG,AJ,AM,AL,AU,BH,AR])];obtain⟨c',γ',fr,hc',g4,g5,q⟩:=qZ x c hl [i 0,i 0,i 0,i 0,.nil,.nil,.nil,.nil,.nil,.nil,.nil,.nil] c.fams.length 0 3 0 (by omega) (Nat.le_refl _);have q:=fun n m=>q n (m+100) (by omega);rw[show IV x c 0=[] from rfl]at q;have e:(D5 c (F0 x c.fams.length)).fams=IV x c c.fams.length:=rfl;rw[e];generalize IV x c c.fams.length=F at q|-;simp only[AG]at q|-;simp at q;simp[c60,AD,AJ,AM,AL,AU,BH,q,g4,g5,show 1<c' by omega,A9];rw[LR (T:=57) 2 _ 30 γ' (F.map AR) (by simp)];simp[AR];exact fun x _ v hv=>by simp[AU]at hv;rw[hv];simp[BH]
def AKF(x:Nat):List V:=[i (x:Int)]
theorem BEB{a j:Nat}(ha:a<=16)(hj:j<=30):SH .shl .i64 (a:Int) (j:Int)=some (.int .i64 ((a*2 ^ j:Nat):Int)):=by
 rw[aH,if_neg (by omega)];have e:min (j:Int).toNat IntKind.i64.bits=j:=by simp only[Int.toNat_natCast,IntKind.bits];omega
 rw[e];have h1:2 ^ j<=2 ^ 30:=Nat.pow_le_pow_right (by decide) hj;have h2:a*2 ^ j<=16*2 ^ 30:=Nat.mul_le_mul ha h1;have e2:(a:Int)*2 ^ j=((a*2 ^ j:Nat):Int):=by simp
 rw[e2,AZ (by omega) (by omega)]
theorem yT{c:AV}(h:NK c=true)(out:List Int):NK (D5 c out)=true:=by have hl:=bU c out;have h4:=(JM h).2.2.2.1;simp only[NK,Bool.and_eq_true,Bool.not_eq_true',decide_eq_false_iff_not]at h|-;exact⟨⟨h.1.1,h.1.2.1,h.1.2.2.1,by omega⟩,h.2⟩
theorem TS{ss:List (Int×Int)}(f:Nat):∀e∈ss.map AL,∀v∈e,AE (f+1) v=true:=fun e he v hv=>by obtain⟨l,_,rfl⟩:=List.mem_map.1 he;simp only[AL,List.mem_cons,List.not_mem_nil,or_false]at hv;rcases hv with rfl|rfl<;>rfl
theorem lPd(c:AV)(hT:NK c=true)(h0:D6 c=0)(ys:List Nat)(hlt:∀v∈ys,v<c.fams.length)(hgr:∀i j (hi:i<j) (hj:j<ys.length),ys[i]<ys[j])(hpa:∀v∈ys,CZ c v=true)(hlen:ys.length<=30):∀(d j cc:Nat),j+d=ys.length->∃fr c',∀n m,d<m ->
  BM (AF bx ann kn (n+9700) 112) L5 (ann 112 (B0 L5)) m ⟨cc,[(1,true,.ptr 0 1 0 0),(3,true,.list false (ys.map AKF)),(9,true,i j)],⟨[],[(1,0,.box (AG c))]⟩⟩ =
   some (.exit 0,⟨c',fr,⟨[],[(1,0,.box (AG c))]⟩⟩)
 |0,j,cc,hd=>by
  have hj:j=ys.length:=by omega
  subst hj;refine⟨?fr,cc,fun n m hm=>?g⟩;case g=>
   obtain⟨m,rfl⟩:=qNz m (by omega)
   simp[AB,AG]
   rfl
 |d+1,j,cc,hd=>by
  have hc:=KY h0;have hfl:=hc.fl;have hj:j<ys.length:=by omega
  obtain⟨v,hvv⟩:∃v,ys[j]=v:=⟨_,rfl⟩;have hv:v<c.fams.length:=hvv▸hlt ys[j] (List.getElem_mem hj);have hp:CZ c v=true:=hvv▸hpa ys[j] (List.getElem_mem hj);have h2:=nH hp;have hv0:¬((v:Int)<0):=by omega
  have hvl:¬(c.fams.length<=v):=by omega
  obtain⟨fr,c',ih⟩:=lPd c hT h0 ys hlt hgr hpa hlen d (j+1) cc (by omega);refine⟨fr,c',fun n m hm=>?_⟩;obtain⟨m,rfl⟩:=qNz m (by omega);have ih:=ih n m (by omega);obtain⟨t1,t2,t3,t4,t5,t6⟩:=JM hT;obtain⟨l1,l2,l3,l4,l5,l6⟩:=QW t1;have e1:=BEB (a:=1) (j:=v) (by omega) (by omega);rw[Nat.one_mul]at e1;have e2:=dS (p:=v) (by omega);have hw:=B5 (k:=j) (by omega);have hfk:(c.fams[v]'hv).size=(BR c v).size:=by simp[BR,bk hv]
  have hn2:¬(BR c v).size<2:=by omega
  have qS:=fun n=>ATI n (2 ^ v) c (by omega);have qC:=fun n=>zZ n (D5 c (F0 (2 ^ v) c.fams.length)) (yT hT _);have qb:=fun n=>zV n (D5 c (F0 (2 ^ v) c.fams.length)) l4 (show c.chairs.length<=40 by omega);have he:=zM h0 (F0 (2 ^ v) c.fams.length);rw[zN,if_pos (nI hc hp)]at he;have hu:∀(h:0<j),¬v<=ys[j-1]:=fun h=>by have:=hgr (j-1) j (by omega) hj;omega
  generalize LV (D5 c (F0 (2 ^ v) c.fams.length))=Q at qb he;obtain⟨Q1,Q2,Q3,Q4⟩:=Q;simp only at he qb;subst he;have e7:=eq_true (TS (ss:=Q1) 6);have e8:=eq_true (TS (ss:=Q1) 7);simp only[AG,OX,HL,D5]at qS qC qb ih|-;generalize (EV c.fams.length (F0 (2 ^ v) c.fams.length)).map (BR c)=FX at *;generalize (BR c v).size=SZ at *;generalize 2 ^ v=A at *;rw[AB];rcases Nat.eq_zero_or_pos j with hj0|hj0
  ·subst hj0;have e1:SH .shl .i64 1 (v:Int)=some (.int .i64 (A:Int)):=e1;simp at ih;simp[hj,hw,hv,hv0,hvl,DV,AKF,AJ,AM,AL,AU,BH,AR,hvv,hfk,hn2,e1,e2,gE,-aH,qS,qC,qb,e7,e8,ih];done
  ·obtain⟨p,rfl⟩:∃p,j=p+1:=⟨j-1,by omega⟩;have hu:=hu hj0;have hj2:p<ys.length:=by omega
   have wp:IntKind.i64.wrap (p:Int)=(p:Int):=AZ (by omega) (by omega);have hp0:(0:Int)<(p:Int)+1:=by omega
   simp only[Nat.add_sub_cancel]at hu;obtain⟨u,huu⟩:∃u,ys[p]=u:=⟨_,rfl⟩;rw[huu]at hu;have e1:SH .shl .i64 1 (v:Int)=some (.int .i64 (A:Int)):=e1;simp at ih;have hp1:(0:Int)<=(p:Int)+1:=by omega
   have hw2:IntKind.i64.wrap ((p:Int)+1+1)=(p:Int)+1+1:=AZ (by omega) (by omega);have hjI:(p:Int)+1<(ys.length:Int):=by omega
   simp[hj,hjI,hj2,hp1,hw2,wp,hp0,hv,hv0,hvl,DV,AKF,AJ,AM,AL,AU,BH,AR,hvv,huu,hu,hfk,hn2,e1,e2,gE,-aH,qS,qC,qb,e7,e8,ih];done
theorem BEC(n:Nat)(c:AV)(cc:Nat):∀m,0<m->BM (AF bx ann kn (n+9700) 112) L5 (ann 112 (B0 L5)) m ⟨cc,[(1,true,.ptr 0 1 0 0),(3,true,.nil),(9,true,i 0)],⟨[],[(1,0,.box (AG c))]⟩⟩=some (.exit 0,⟨cc,[(48,true,.bool false),(47,true,i 0),(46,true,.nil),(45,true,i 0),(1,true,.ptr 0 1 0 0),(3,true,.nil),(9,true,i 0)],⟨[],[(1,0,.box (AG c))]⟩⟩):=fun m hm=>by obtain⟨m,rfl⟩:=qNz m (by omega);simp[AB]
set_option maxHeartbeats 4000000 in
theorem mT(n:Nat)(c:AV)(_:okC c):EG bx (AF bx ann kn (n+9900)) 16 [.agg (AG c)]=some (.bool true):=by
 rw[AQ Tryz.func16 b16 rfl (by simp[AG,AJ,AM,AL,AU,BH,AR])];have qr:=fun n=>AKE n c;cases hR:gM c with
 |false=>
  rw[hR]at qr
  simp only[AG]at qr|-
  simp[c16,AD,qr,AJ,AM,AL,AU,BH,AR,W3]
 |true=>
 rw[hR]at qr;simp only[gM,Bool.and_eq_true,decide_eq_true_eq]at hR;obtain⟨hT,h0⟩:=hR;have hc:=KY h0;obtain⟨t1,t2,t3,t4,t5,t6⟩:=JM hT;obtain⟨l1,l2,l3,l4,l5,l6⟩:=QW t1;have hfl:=hc.fl;have qC:=fun n=>zZ n c hT;have qb:=fun n=>zV n c l4 (by omega);have qp:=fun n=>ANP n c l4 (by omega);unfold LV at qb;unfold dZ at qp;rw[if_neg (by simp[h0])]at qb qp;have hcb:=hJ c;cases hO:IA c with
 |some q=>
  rw[hO]at qb hcb
  rw[hcb,if_pos (show(some q).isSome=true from rfl)]at qp
  have b7:=eq_true (TS (ss:=q.1.map spt) 6)
  have b8:=eq_true (TS (ss:=q.1.map spt) 7)
  simp only at qb
  generalize (q.1.map spt).map AL=QQ at *
  simp only[AG,OX,HL]at qr qC qb qp|-
  simp[WL]at qp
  simp[c16,AD,qr,qC,qb,qp,AJ,AM,AL,AU,BH,AR,W3,b7,b8]
 |none=>
  rw[hO]at qb hcb
  rw[hcb,if_neg (show ¬(none:Option (List Sp×CD)).isSome=true by decide)]at qp
  have hmm:∀v∈(bj c.fams.length).filter (CZ c),v<c.fams.length/\CZ c v=true:=fun v hv=>⟨List.mem_range.1 (List.mem_filter.1 hv).1,(List.mem_filter.1 hv).2⟩
  have hpw:((bj c.fams.length).filter (CZ c)).Pairwise (· < ·):=(List.pairwise_lt_range (n:=c.fams.length)).sublist (List.filter_sublist)
  have hlen:((bj c.fams.length).filter (CZ c)).length<=c.fams.length:=by have:=bq (CZ c) (bj c.fams.length);rwa [bw]at this
  have he:(((bj c.fams.length).filter (CZ c)).map (fun (k:Nat)=>(k:Int))).map AJ=((bj c.fams.length).filter (CZ c)).map AKF:=by rw[List.map_map];rfl
  simp only at qb qp
  rw[he]at qp
  generalize (bj c.fams.length).filter (CZ c)=ys at *
  have hgr:∀i j (hi:i<j) (hj:j<ys.length),ys[i]<ys[j]:=fun i j hi hj=>List.pairwise_iff_getElem.1 hpw i j (by omega) hj hi
  obtain⟨fr,c',ql⟩:=lPd c hT h0 ys (fun v hv=>(hmm v hv).1) hgr (fun v hv=>(hmm v hv).2) (by omega) ys.length 0 1 (by omega)
  have ql:=ql (n+190) (n+9890) (by omega)
  rw[show n+190+9700=n+9890 by omega]at ql
  cases ys with
  |nil=>
   simp only[AG,OX,HL,List.map_nil,WL]at qr qC qb qp ql|-
   have q0:=BEC (n+190) c 1 (n+9890) (by omega)
   rw[show n+190+9700=n+9890 by omega]at q0
   simp only[AG]at q0
   simp at q0
   simp[c16,AD,qr,qC,qb,qp,q0,AJ,AM,AL,AU,BH,AR,W3]
  |cons a r=>
   simp only[AG,OX,HL,List.map_nil,WL,List.map_cons,lT]at qr qC qb qp ql|-
   simp at ql
   simp[c16,AD,qr,qC,qb,qp,ql,AJ,AM,AL,AU,BH,AR,W3]
end Go.Proofs.Tryz.Op
