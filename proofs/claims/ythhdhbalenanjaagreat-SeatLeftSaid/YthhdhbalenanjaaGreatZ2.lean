/- The contract of the law's some: a case without some families. No condition but few of them. -/
import Derived.Test.YthhdhbalenanjaaGreatAp
import Derived.Test.YthhdhbalenanjaaGreatZ1
import Derived.Test.YthhdhbalenanjaaGreatC3
open Go.Proofs.Tryz renaming prog->bc
open Nat renaming pow_le_pow_right->bj,mod_eq_of_lt->bk,add_sub_cancel->bz
open List renaming range->bq,length_filter_le->bw,mem_filter->bx,length_range->bb
set_option maxRecDepth 100000
set_option linter.unusedSimpArgs false
open Go Go.Pg Go.Proofs Go.Wind
namespace Go.Proofs.Tryz.Op
def I0(x:Nat)(c:AW)(k:Nat):List UD:=(EN k (BF x c.fams.length)).map (C5 c)
theorem rY{x:Nat}{c:AW}{k:Nat}(hk:k<c.fams.length):I0 x c (k+1)=I0 x c k++if x.testBit k=true then[] else[C5 c k]:=by
 unfold I0;rw[XN,List.map_append];by_cases h:x.testBit k=true
 ·rw[if_pos h,if_pos (dB.2 ⟨hk,h⟩)];rfl
 ·rw[if_neg h,if_neg fun hh=>h (dB.1 hh).2];rfl
theorem rZ(x:Nat)(c:AW)(hl:c.fams.length<=30)(Z:List V):∀(d j cc γ:Nat),j+d=c.fams.length->3<=cc->∃(c' γ':Nat) (fr:Fr),3<=c'/\BR fr 4=some (true,.ptr 0 4 1 0)/\BR fr 5=some (true,.ptr 0 5 2 0)/\∀n m,d<m ->
  BK (AE bc ann kn (n+100) 33) X6 (ann 33 (BU X6)) m ⟨cc,[(1,true,i x),(2,true,.ptr 0 2 0 0),(4,true,.ptr 0 4 1 0),(5,true,.ptr 0 5 2 0),(6,true,i j)],
   ⟨[],(2,0,.box (AJ c)) :: (4,1,.box Z) :: (5,2,.box [i c.beach.last,i c.beach.rows,i c.beach.places,i c.beach.reach,li c.beach.face,li c.beach.sun,JF c.beach.winds,.list false (c.beach.breaks.map AL),.list false (c.beach.notes.map AL),JF c.plan,.list false (c.chairs.map AS),pv 30 γ ((I0 x c j).map AR)]) :: pl 30 γ 57 ((I0 x c j).map AR)⟩⟩ =
   some (.exit 0,⟨c',fr,⟨[],(2,0,.box (AJ c))::(4,1,.box Z)::(5,2,.box [i c.beach.last,i c.beach.rows,i c.beach.places,i c.beach.reach,li c.beach.face,li c.beach.sun,JF c.beach.winds,.list false (c.beach.breaks.map AL),.list false (c.beach.notes.map AL),JF c.plan,.list false (c.chairs.map AS),pv 30 γ' ((I0 x c c.fams.length).map AR)])::pl 30 γ' 57 ((I0 x c c.fams.length).map AR)⟩⟩)
 |0,j,cc,γ,hd,hc=>by
  have hj:j=c.fams.length:=by omega
  subst hj;refine⟨cc,γ,?fr,hc,?g1,?g2,fun n m hm=>?g3⟩;case g3=>
   obtain⟨m,rfl⟩:=qNz m (by omega)
   simp[AB,AJ]
   rfl
  all_goals simp
 |d+1,j,cc,γ,hd,hc=>by
  have hj:j<c.fams.length:=by omega
  have e1:=rN (x:=x) (j:=j) (by omega);have e2:=L6 (p:=j) (by omega);have hb:=AA9 x j;have hw:=BZ (k:=j) (by omega);have hfj:c.fams[j]'hj=C5 c j:=by simp[C5,List.getElem?_eq_getElem hj]
  have hlen:(I0 x c j).length<=j:=by unfold I0 EN;rw[List.length_map];have:=bw (fun k:Nat=>!decide ((k:Int)∈BF x c.fams.length)) (bq j);rw[bb]at this;exact this
  generalize ((x / 2 ^ j:Nat):Int)=X at e1 hb;have hds:=rY (x:=x) hj;cases hbit:x.testBit j with
  |true=>
   rw[hbit]at hb
   obtain⟨c',γ',fr,hc',g4,g5,ih⟩:=rZ x c hl Z d (j+1) cc γ (by omega) hc
   refine⟨c',γ',fr,hc',g4,g5,fun n m hm=>?_⟩
   obtain⟨m,rfl⟩:=qNz m (by omega)
   have ih:=ih n m (by omega)
   rw[hds,if_pos hbit,List.append_nil]at ih
   rw[AB]
   generalize I0 x c j=D at *
   generalize I0 x c c.fams.length=D' at *
   simp only[AJ]at ih|-
   simp at ih
   simp[hj,M5,e2,e1,-LZ,hb,hw,ih]
  |false=>
   rw[hbit]at hb
   obtain⟨c',γ',fr,hc',g4,g5,ih⟩:=rZ x c hl Z d (j+1) (cc+1) cc (by omega) (by omega)
   refine⟨c',γ',fr,hc',g4,g5,fun n m hm=>?_⟩
   obtain⟨m,rfl⟩:=qNz m (by omega)
   have ih:=ih n m (by omega)
   rw[hds,if_neg (by rw[hbit];decide)]at ih
   have happ:B8 bc 57 (I0 x c j).length [AR (C5 c j)]=true:=by rw[CE (by simp[AR]) (by simp)];simp[maxLen,AR];omega
   have hg1:2<cc+1:=by omega
   have hg2:2<cc:=by omega
   rw[AB]
   generalize I0 x c j=D at *
   generalize I0 x c c.fams.length=D' at *
   simp only[AJ]at ih|-
   simp[AR]at ih happ
   simp[hj,hfj,M5,e2,e1,-LZ,hb,hw,happ,AR,D6,ID,hg1,hg2,ih]
theorem AGR(n x:Nat)(c:AW)(hl:c.fams.length<=30):A3 bc kn (AE bc ann kn (n+300)) 60 [.agg (AJ c),i x]=some (.agg [i c.beach.last,i c.beach.rows,i c.beach.places,i c.beach.reach,li c.beach.face,li c.beach.sun,JF c.beach.winds,.list false (c.beach.breaks.map AL),.list false (c.beach.notes.map AL),JF c.plan,.list false (c.chairs.map AS),sl ((DQ c (BF x c.fams.length)).fams.map AR)]):=by
 rw[AP rfl,AQ Tryz.func60 b60 rfl (by simp[AJ,AG,AM,AL,AS,BM,AR])];obtain⟨c',γ',fr,hc',g4,g5,q⟩:=rZ x c hl [i 0,i 0,i 0,i 0,.nil,.nil,.nil,.nil,.nil,.nil,.nil,.nil] c.fams.length 0 3 0 (by omega) (Nat.le_refl _);have q:=fun n m=>q n (m+100) (by omega);rw[show I0 x c 0=[] from rfl]at q;have e:(DQ c (BF x c.fams.length)).fams=I0 x c c.fams.length:=rfl;rw[e];generalize I0 x c c.fams.length=F at q|-;simp only[AJ]at q|-;simp at q;simp[c60,AD,AG,AM,AL,AS,BM,q,g4,g5,show 1<c' by omega,BA];rw[L5 (T:=57) 2 _ 30 γ' (F.map AR) (by simp)];simp[AR];exact fun x _ v hv=>by simp[AS]at hv;rw[hv];simp[BM]
def AAB(x:Nat):List V:=[i (x:Int)]
theorem A79{a j:Nat}(ha:a<=16)(hj:j<=30):S0 .shl .i64 (a:Int) (j:Int)=some (.int .i64 ((a*2 ^ j:Nat):Int)):=by
 rw[O1,if_neg (by omega)];have e:min (j:Int).toNat IntKind.i64.bits=j:=by simp only[Int.toNat_natCast,IntKind.bits];omega
 rw[e];have h1:2 ^ j<=2 ^ 30:=bj (by decide) hj;have h2:a*2 ^ j<=16*2 ^ 30:=Nat.mul_le_mul ha h1;have e2:(a:Int)*2 ^ j=((a*2 ^ j:Nat):Int):=by simp
 rw[e2,AV (by omega) (by omega)]
theorem fA{c:AW}(h:P9 c=true)(out:List Int):P9 (DQ c out)=true:=by have hl:=cY c out;have h4:=(MB h).2.2.2.1;simp only[P9,Bool.and_eq_true,Bool.not_eq_true',decide_eq_false_iff_not]at h|-;exact⟨⟨h.1.1,h.1.2.1,h.1.2.2.1,by omega⟩,h.2⟩
theorem UC{ss:List (Int×Int)}(f:Nat):∀e∈ss.map AL,∀v∈e,AF (f+1) v=true:=fun e he v hv=>by obtain⟨l,_,rfl⟩:=List.mem_map.1 he;simp only[AL,List.mem_cons,List.not_mem_nil,or_false]at hv;rcases hv with rfl|rfl<;>rfl
end Go.Proofs.Tryz.Op
namespace Go.Wind
def orG(ys:List Nat):Nat:=ys.foldl (fun m v=>m ||| 2 ^ v) 0
theorem AGS(ys:List Nat)(v:Nat):orG (ys++[v])=orG ys ||| 2 ^ v:=by unfold orG;rw[List.foldl_append];rfl
theorem vW(k:Nat)(ys:List Nat):∀m:Nat,(ys.foldl (fun m v=>m ||| 2 ^ v) m).testBit k=(m.testBit k||decide (k∈ys)):=by
 induction ys with
 |nil=>intro m;simp
 |cons v r ih=>
  intro m
  rw[List.foldl_cons,ih,Nat.testBit_or,Nat.testBit_two_pow]
  by_cases h:v=k
  ·subst h;simp
  ·have h':¬k=v:=fun e=>h e.symm;simp[h,h']
theorem AUS{N:Nat}{ys:List Nat}(h:∀v∈ys,v<N):orG ys<2 ^ N:=by refine Nat.lt_pow_two_of_testBit _ fun k hk=>?_;unfold orG;rw[vW,Nat.zero_testBit,Bool.false_or];exact decide_eq_false fun hh=>by have:=h k hh;omega
theorem AGT{N z:Nat}(hz:z<2 ^ N):orG ((bq N).filter fun i=>z.testBit i)=z:=by
 refine Nat.eq_of_testBit_eq fun k=>?_;unfold orG;rw[vW,Nat.zero_testBit,Bool.false_or];by_cases h:z.testBit k=true
 ·have:k<N:=by
   rcases Nat.lt_or_ge k N with h2|h2
   ·exact h2
   ·rw[Nat.testBit_lt_two_pow (Nat.lt_of_lt_of_le hz (bj (by decide) h2))]at h;cases h
  rw[h];exact decide_eq_true (bx.2 ⟨List.mem_range.2 this,h⟩)
 ·rw[Bool.eq_false_iff.2 h];exact decide_eq_false fun hh=>h (bx.1 hh).2
end Go.Wind
namespace Go.Proofs.Tryz.Op
theorem ALJ{a b:Nat}(ha:a<4611686018427387904)(hb:b<4611686018427387904):IntKind.i64.wrap (((BitVec.ofInt 64 (a:Int) &&& BitVec.ofInt 64 (b:Int)).toNat:Nat):Int)=((a &&& b:Nat):Int):=by
 have e:BitVec.ofInt 64 (a:Int) &&& BitVec.ofInt 64 (b:Int)=BitVec.ofNat 64 (a &&& b):=by
  apply BitVec.eq_of_toNat_eq;simp only[BitVec.toNat_and,BitVec.toNat_ofInt,BitVec.toNat_ofNat];have h1:((a:Int) % ((2 ^ 64:Nat):Int)).toNat=a:=by omega
  have h2:((b:Int) % ((2 ^ 64:Nat):Int)).toNat=b:=by omega
  have h3:a &&& b<=a:=Nat.and_le_left;rw[h1,h2,bk (by omega)]
 have h3:a &&& b<=a:=Nat.and_le_left;rw[e,BitVec.toNat_ofNat,bk (by omega)];exact AV (by omega) (by omega)
theorem AUT{a b:Nat}(ha:a<4611686018427387904)(hb:b<4611686018427387904):EC .and .i64 (a:Int) (b:Int)=some (.int .i64 ((a &&& b:Nat):Int)):=by rw[zN];exact congrArg (fun z=>some (V.int IntKind.i64 z)) (ALJ ha hb)
theorem AUU{a b:Nat}(ha:a<4611686018427387904)(hb:b<4611686018427387904):IntKind.i64.wrap (((BitVec.ofInt 64 (a:Int) ||| BitVec.ofInt 64 (b:Int)).toNat:Nat):Int)=((a ||| b:Nat):Int):=by
 have h:(BitVec.ofInt 64 (a:Int) ||| BitVec.ofInt 64 (b:Int)).toNat=a ||| b:=by rw[BitVec.toNat_or,BitVec.ofInt_natCast,BitVec.ofInt_natCast,BitVec.toNat_ofNat,BitVec.toNat_ofNat,bk (by omega),bk (by omega)]
 rw[h];have:=Nat.or_lt_two_pow (n:=62) (x:=a) (y:=b) (by omega) (by omega);exact AV (by omega) (by omega)
theorem A8A{a b:Nat}(ha:a<4611686018427387904)(hb:b<4611686018427387904):EC .or .i64 (a:Int) (b:Int)=some (.int .i64 ((a ||| b:Nat):Int)):=by rw[AF4];exact congrArg (fun z=>some (V.int IntKind.i64 z)) (AUU ha hb)
theorem AOM(c:AW)(hN:c.fams.length<=8)(ys:List Nat)(hlt:∀v∈ys,v<c.fams.length)(hgr:∀i j (hi:i<j) (hj:j<ys.length),ys[i]<ys[j])(hlen:ys.length<=30)(κ:Nat)(cc:Nat):∀(d j:Nat),j+d=ys.length->∀n m,d<m ->
  BK (AE bc ann kn (n+100) 124) QS (ann 124 (BU QS)) m ⟨cc,[(1,true,.int .u8 κ),(2,true,.ptr 0 2 0 0),(5,true,.list false (ys.map AAB)),(7,true,i (orG (ys.take j):Nat)),(8,true,i j)],⟨[],[(2,0,.box (AJ c))]⟩⟩ =
   some (.exit 0,⟨cc,[(33,true,.bool false),(32,true,i ys.length),(31,true,.list false (ys.map AAB)),(30,true,i ys.length),(1,true,.int .u8 κ),(2,true,.ptr 0 2 0 0),(5,true,.list false (ys.map AAB)),(7,true,i (orG ys:Nat)),(8,true,i ys.length)],⟨[],[(2,0,.box (AJ c))]⟩⟩)
 |0,j,hd,n,m,hm=>by
  have hj:j=ys.length:=by omega
  subst hj;obtain⟨m,rfl⟩:=qNz m (by omega);rw[List.take_length];simp[AB];done
 |d+1,j,hd,n,m,hm=>by
  have hj:j<ys.length:=by omega
  have ih:=AOM c hN ys hlt hgr hlen κ cc d (j+1) (by omega) n (m-1) (by omega);obtain⟨m,rfl⟩:=qNz m (by omega);rw[bz]at ih;rw[List.take_succ_eq_append_getElem hj,AGS]at ih;obtain⟨v,hvv⟩:∃v,ys[j]=v:=⟨_,rfl⟩;have hv:v<c.fams.length:=hvv▸hlt ys[j] (List.getElem_mem hj);rw[hvv]at ih;have hm1:orG (ys.take j)<2 ^ c.fams.length:=AUS fun v hv=>hlt v (List.mem_of_mem_take hv);have hp30:2 ^ c.fams.length<=2 ^ 8:=bj (by decide) (by omega);have hp31:2 ^ v<=2 ^ 8:=bj (by decide) (by omega);have e1:=A79 (a:=1) (j:=v) (by omega) (by omega);have e2:=L6 (p:=v) (by omega);have e3:=A8A (a:=orG (ys.take j)) (b:=2 ^ v) (by omega) (by omega);rw[Nat.one_mul]at e1;have hw:=BZ (k:=j) (by omega);have hv0:¬((v:Int)<0):=by omega
  have hvl:¬(c.fams.length<=v):=by omega
  have hu:∀(h:0<j),¬v<=ys[j-1]:=fun h=>by have:=hgr (j-1) j (by omega) hj;omega
  generalize orG (ys.take j)=M at *;generalize M ||| 2 ^ v=M2 at *;generalize 2 ^ v=A at *;have e1:S0 .shl .i64 1 (v:Int)=some (.int .i64 (A:Int)):=e1;simp only[AJ]at ih|-;rw[AB];rcases Nat.eq_zero_or_pos j with h0|h0
  ·subst h0;simp at ih;simp[hj,hw,hv,hv0,hvl,D6,AAB,AM,AL,hvv,e1,e2,e3,M5,-O1,ih];done
  ·obtain⟨p,rfl⟩:∃p,j=p+1:=⟨j-1,by omega⟩;have hu:=hu h0;have hj2:p<ys.length:=by omega
   have wp:IntKind.i64.wrap (p:Int)=(p:Int):=AV (by omega) (by omega);have hp0:(0:Int)<(p:Int)+1:=by omega
   simp only[bz]at hu;obtain⟨u,huu⟩:∃u,ys[p]=u:=⟨_,rfl⟩;rw[huu]at hu;simp at ih;have hp1:(0:Int)<=(p:Int)+1:=by omega
   have hw2:IntKind.i64.wrap ((p:Int)+1+1)=(p:Int)+1+1:=AV (by omega) (by omega);have hjI:(p:Int)+1<(ys.length:Int):=by omega
   simp[hj,hjI,hj2,hp1,hw2,wp,hp0,hv,hv0,hvl,D6,AAB,AM,AL,hvv,huu,hu,e1,e2,e3,M5,-O1,ih];done
theorem AUV(c:AW)(hN:c.fams.length<=8)(z:Nat)(hz:z<2 ^ c.fams.length)(κ:Nat)(cc:Nat):∀n m,10<m ->
  BK (AE bc ann kn (n+100) 124) QS (ann 124 (BU QS)) m ⟨cc,[(1,true,.int .u8 κ),(2,true,.ptr 0 2 0 0),(5,true,sl ((BF z c.fams.length).map AG)),(7,true,i 0),(8,true,i 0)],⟨[],[(2,0,.box (AJ c))]⟩⟩ =
   some (.exit 0,⟨cc,[(33,true,.bool false),(32,true,i (BF z c.fams.length).length),(31,true,sl ((BF z c.fams.length).map AG)),(30,true,i (BF z c.fams.length).length),(1,true,.int .u8 κ),(2,true,.ptr 0 2 0 0),(5,true,sl ((BF z c.fams.length).map AG)),(7,true,i (z:Nat)),(8,true,i (BF z c.fams.length).length)],⟨[],[(2,0,.box (AJ c))]⟩⟩):=by
 intro n m hm
 have hlt:∀v∈(bq c.fams.length).filter (fun i=>z.testBit i),v<c.fams.length:=fun v hv=>List.mem_range.1 (bx.1 hv).1
 have hpw:((bq c.fams.length).filter (fun i=>z.testBit i)).Pairwise (· < ·):=(List.pairwise_lt_range (n:=c.fams.length)).sublist (List.filter_sublist)
 have hlen:((bq c.fams.length).filter (fun i=>z.testBit i)).length<=c.fams.length:=by have:=bw (fun i=>z.testBit i) (bq c.fams.length);rw[bb]at this;exact this
 have he:(BF z c.fams.length).map AG=((bq c.fams.length).filter (fun i=>z.testBit i)).map AAB:=by unfold BF;rw[List.map_map];rfl
 have hl:(BF z c.fams.length).length=((bq c.fams.length).filter (fun i=>z.testBit i)).length:=by unfold BF;rw[List.length_map]
 have ho:=AGT hz
 rw[he,hl]
 generalize (bq c.fams.length).filter (fun i=>z.testBit i)=ys at *
 have hgr:∀i j (hi:i<j) (hj:j<ys.length),ys[i]<ys[j]:=fun i j hi hj=>List.pairwise_iff_getElem.1 hpw i j (by omega) hj hi
 cases ys with
 |nil=>
  have:z=0:=ho.symm
  subst this
  obtain⟨m,rfl⟩:=qNz m (by omega)
  simp[AB,cQ]
  done
 |cons v r=>
  have h:=AOM c hN (v::r) hlt hgr (by omega) κ cc (v::r).length 0 (by omega) n m (by omega)
  rw[ho]at h
  exact h
theorem AON(k:IntKind)(n:Int):J2 bc 5 3 (.int k n)=some (.int .i64 (IntKind.i64.wrap n)):=by kernel_rfl
set_option maxHeartbeats 4000000 in
theorem AAC(n:Nat)(c:AW)(_:okC c)(κ:Nat)(hκ:κ<=255):EK bc (AE bc ann kn (n+9900)) 15 [.agg (AJ c),.int .u8 κ]=some (.bool true):=by
 rw[AQ Tryz.func15 b15 rfl (by simp[AJ,AG,AM,AL,AS,BM,AR])];have qr:=fun n=>ALI n c;cases hR:iJ c with
 |false=>
  rw[hR]at qr
  simp only[AJ]at qr|-
  simp[c15,AD,qr,AG,AM,AL,AS,BM,AR,iI]
 |true=>
 rw[hR]at qr;simp only[iJ,Bool.and_eq_true,decide_eq_true_eq]at hR;obtain⟨hT,h0⟩:=hR;have hc:=O5 h0;obtain⟨t1,t2,t3,t4,t5,t6⟩:=MB hT;obtain⟨l1,l2,l3,l4,l5,l6⟩:=bK t1;have hfl:=hc.fl;have qC:=fun n=>oC n c hT;have qLe:=fun n=>AG3 n c l4 (by omega);unfold W3 at qLe;rw[if_neg (by simp[h0])]at qLe;obtain⟨y,hy,hsp⟩:=VZ c;rw[hy,Option.getD_some]at qLe;obtain⟨z,hz,rfl⟩:=RI _ _ hsp.inc;have hp8:2 ^ c.fams.length<=2 ^ 3:=bj (by decide) (by omega);have hpos:=Nat.two_pow_pos c.fams.length;have hx:κ &&& (2 ^ c.fams.length-1)<2 ^ c.fams.length:=by have:=Nat.and_le_right (n:=κ) (m:=2 ^ c.fams.length-1);omega
 have wk:IntKind.i64.wrap (κ:Int)=(κ:Int):=AV (by omega) (by omega);have wl:=L6 (p:=c.fams.length) (by omega);have e0:=A79 (a:=1) (j:=c.fams.length) (by omega) (by omega);rw[Nat.one_mul]at e0;have e0:S0 .shl .i64 1 (c.fams.length:Int)=some (.int .i64 ((2 ^ c.fams.length:Nat):Int)):=e0;have wm:IntKind.i64.wrap (((2 ^ c.fams.length:Nat):Int)-1)=((2 ^ c.fams.length-1:Nat):Int):=by rw[AV (by omega) (by omega)];omega
 have e1:=AUT (a:=κ) (b:=2 ^ c.fams.length-1) (by omega) (by omega);generalize κ &&& (2 ^ c.fams.length-1)=x at hx e1;have hinx:=NQ x c.fams.length;have qsx:=fun n=>AGR n x c (by omega);have qsz:=fun n=>AGR n z c (by omega);have qcx:=fun n=>oC n (DQ c (BF x c.fams.length)) (fA hT _);have qcz:=fun n=>oC n (DQ c (BF z c.fams.length)) (fA hT _);have qbx:=fun n=>AA6 n (DQ c (BF x c.fams.length)) l4 (show c.chairs.length<=40 by omega);have qbz:=fun n=>AA6 n (DQ c (BF z c.fams.length)) l4 (show c.chairs.length<=40 by omega);have hez:=iZ h0 (BF z c.fams.length);have hex:=iZ h0 (BF x c.fams.length);rw[if_pos hsp.can]at hez;have ql:=fun n m=>AUV c (by omega) z hz κ 1 n (m+100) (by omega);have q50:=fun n=>A3P n x c.fams.length (by omega) hx;have hbl:(BF x c.fams.length).length<=90:=by have:=NR hinx (Nat.zero_le _);omega
 have hbz:(BF z c.fams.length).length<=90:=by have:=NR hsp.inc (Nat.zero_le _);omega
 have q49:=fun n=>AEZ n (BF x c.fams.length) (BF z c.fams.length) hbl hbz;have hmin:=hsp.min _ hinx;generalize L9 (DQ c (BF x c.fams.length))=QX at qbx hex;generalize L9 (DQ c (BF z c.fams.length))=QZ at qbz hez;obtain⟨X1,X2,X3,X4⟩:=QX;obtain⟨Z1,Z2,Z3,Z4⟩:=QZ;simp only at hex hez qbx qbz;subst hez;have b7:=eq_true (UC (ss:=Z1) 6);have b8:=eq_true (UC (ss:=Z1) 7);have x7:=eq_true (UC (ss:=X1) 6);have x8:=eq_true (UC (ss:=X1) 7);clear hsp hy;cases hE:FL c (BF x c.fams.length)with
 |false=>
  rw[hE,if_neg (by decide)]at hex
  subst hex
  simp only[AJ,W5,I9,DQ]at qr qC qLe qsx qsz qcx qcz qbx qbz ql|-
  generalize (EN c.fams.length (BF x c.fams.length)).map (C5 c)=FX at *
  generalize (EN c.fams.length (BF z c.fams.length)).map (C5 c)=FZ at *
  generalize BF z c.fams.length=Z at *
  generalize 2 ^ c.fams.length-1=F at *
  generalize 2 ^ c.fams.length=F' at *
  simp at ql
  simp[c15,AD,AG,AM,AL,AS,BM,AR,qr,qC,qLe,qsx,qsz,qcx,qcz,qbx,qbz,ql,wk,wl,wm,e0,e1,AON,M5,-O1,b7,b8,x7,x8,iI]
 |true=>
  rw[hE,if_pos rfl]at hex
  subst hex
  rw[hmin hE]at q49
  simp only[AJ,W5,I9,DQ]at qr qC qLe qsx qsz qcx qcz qbx qbz ql|-
  generalize (EN c.fams.length (BF x c.fams.length)).map (C5 c)=FX at *
  generalize (EN c.fams.length (BF z c.fams.length)).map (C5 c)=FZ at *
  generalize BF z c.fams.length=Z at *
  generalize BF x c.fams.length=X at *
  generalize 2 ^ c.fams.length-1=F at *
  generalize 2 ^ c.fams.length=F' at *
  simp at ql
  simp[c15,AD,AG,AM,AL,AS,BM,AR,qr,qC,qLe,qsx,qsz,qcx,qcz,qbx,qbz,ql,q49,q50,wk,wl,wm,e0,e1,AON,M5,-O1,b7,b8,x7,x8,iI]
end Go.Proofs.Tryz.Op
