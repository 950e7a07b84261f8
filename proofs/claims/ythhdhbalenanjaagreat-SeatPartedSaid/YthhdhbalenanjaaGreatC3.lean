/- The contract of parted, from its own level. No condition but a valid case, a family of it. -/
import Derived.Test.YthhdhbalenanjaaGreatC2
open Go.Proofs.Tryz renaming prog->bg
open List renaming not_mem_nil->bk,getElem?_eq_getElem->bq,mem_cons->bw,length_map->bx,map_nil->bz,range->bf
open Nat renaming reduceAdd->bb,le_refl->bc
set_option maxRecDepth 100000
set_option linter.unusedSimpArgs false
open Go Go.Pg Go.Proofs Go.Wind
namespace Go.Proofs.Tryz.Op
def T4(p:Nat->Bool):Nat->Nat->Bool
 |0,_=>false
 |e+1,j=>p j||T4 p e (j+1)
theorem W9(p:Nat->Bool):∀e j,T4 p e j=(bf e).any fun k=>p (j+k)
 |0,_=>rfl
 |e+1,j=>by rw[List.range_succ_eq_map,List.any_cons,List.any_map];simp only[T4,W9 p e (j+1),Nat.add_zero];congr 2;funext k;show p (j+1+k)=p (j+(k+1));congr 1;omega
def P9(c:AV)(k n:Nat):List (Nat×Int):=AW c [(k:Int)]++[(k,(n:Int)+1),(k,(BR c k).size-((n:Int)+1))]
@[simp] theorem ATK:GK bg 92=true:=by kernel_rfl
theorem AFX(n:Nat)(c:AV)(hl:c.fams.length<=30)(out:List Int)(ho:out.length<=40):I5 bg (AF bg ann kn (n+2000)) 92 [.agg (AG c),li out]=some ⟨.vec 151 ((AW c out).map BN),none⟩:=by
 rw[xR Tryz.func92 b92 rfl (by simp[AG,AJ,AM,AL,AU,BH,AR])];obtain⟨c',γ',q⟩:=AFV c.fams hl out ho (.box (AG c)) c.fams.length 0 1 0 (by omega);have q:=fun n m=>q n (m+100) (by omega);have e:CS c.fams out c.fams.length=AW c out:=rfl;rw[e,show CS c.fams out 0=[] from rfl]at q;generalize hG:AW c out=G at *;have hcl:(G.map BN).all (fun e=>e.all (AE 9))=true:=by simp[BN]
 generalize G.map BN=R at *;simp only[AG,bz]at q|-;simp at q;simp[c92,AD,q,AJA];cases R with
 |nil=>exact ALZ (R:=170) (T:=151) (by kernel_rfl) (by simp) _ _ _ 25 γ' [] rfl rfl
 |cons x xs=>exact ALZ (P:=bg) (R:=170) (T:=151) (by kernel_rfl) (by simp) _ _ _ 25 γ' (x::xs) (by simp) hcl
theorem eC{c:AV}{k:Nat}(hk:k<c.fams.length):BR c k∈c.fams:=by simp[BR,bq hk]
theorem lPt(c:AV)(hc:C5 c){γ:Nat}{B:AA}(k:Nat)(hk:k<c.fams.length)(rs:List AA)(hst:EP rs) :
  ∀(e j:Nat) (L D:AA) (cc:Nat),j+e=((BR c k).size / 2).toNat->Lw c γ B L->γ+1<cc->(D=[]\/∃g,D=[(29,g,.dead)]) ->
  ∃(L' D':AA) (c':Nat) (x:Fr),Lw c γ B L'/\cc<=c' /\
   ∀n m,e<m->BM (AF bg ann kn (n+7050) 41) XQ (ann 41 (B0 XQ)) m ⟨cc,[(0,true,.ptr 0 911 (γ+1) 0),(1,true,i k),(5,true,i (BR c k).size),(6,true,i ((j:Int)+1))],⟨L::rs,D⟩⟩ =
    if T4 (fun n=>KQ c (AS c) (P9 c k n)) e j=true then some (.ret,⟨c',[(4,true,.bool true)],⟨L'::rs,[]⟩⟩)
    else some (.exit 0,⟨c',x,⟨L'::rs,D'⟩⟩)
 |0,j,L,D,cc,he,hL,hcc,hD=>by
  have hfs:=(hc.fo _ (eC hk)).1;generalize (BR c k).size=z at *;have hnot:¬((j:Int)+1<=z / 2):=by omega
  have w0:IntKind.i64.wrap (z.tdiv 2)=z / 2:=by rw[Int.tdiv_eq_ediv_of_nonneg (by omega),AZ (by omega) (by omega)]
  refine⟨L,D,cc,?_,hL,bc _,fun n m hm=>?_⟩;rotate_left
  ·obtain⟨m,rfl⟩:∃k',m=k'+1:=⟨m-1,by omega⟩;rcases hD with rfl|⟨g,rfl⟩
   ·simp[AB,T4,hnot,w0];rfl
   ·simp[AB,T4,hnot,w0]
 |e+1,j,L,D,cc,he,hL,hcc,hD=>by
  have hfs:=(hc.fo _ (eC hk)).1;have hfl:=hc.fl;have hlt:(j:Int)+1<=(BR c k).size / 2:=by omega
  have hgs:∀x∈P9 c k j,x.1<c.fams.length/\1<=x.2/\x.2<=4:=fun x hx=>by
   rcases List.mem_append.1 hx with h|h
   ·exact LZ hc _ _ (bc _) x h
   ·simp only[bw,bk,or_false]at h;rcases h with rfl|rfl<;>(refine⟨hk,?_,?_⟩<;>show _<=_<;>simp only<;>omega)
  have hl0:(AW c [(k:Int)]).length<=c.fams.length:=by rw[FE,bx];have:=List.length_filter_le (fun x:Nat=>!decide ((x:Int)∈[(k:Int)])) (bf c.fams.length);simp[EV]at this|-;omega
  have hgl:(P9 c k j).length<=9:=by simp only[P9,List.length_append,List.length_cons,List.length_nil];omega
  have hga:(AW c [(k:Int)]).map BN++[[V.int .i64 (k:Int),V.int .i64 ((j:Int)+1)],[V.int .i64 (k:Int),V.int .i64 ((BR c k).size-((j:Int)+1))]]=(P9 c k j).map BN:=by simp[P9,BN]
  have hlen:(P9 c k j).length=(AW c [(k:Int)]).length+2:=by simp[P9]
  have happ:B9 bg 151 (AW c [(k:Int)]).length [[V.int .i64 (k:Int),V.int .i64 ((j:Int)+1)],[V.int .i64 (k:Int),V.int .i64 ((BR c k).size-((j:Int)+1))]]=true:=by rw[CQ (by simp) (by simp)];simp[maxLen];omega
  have hcl:∀(t:St) (l:List (Nat×Int)),CE t (.vec 151 (l.map BN))=.vec 151 (l.map BN):=fun t l=>OQ fun e he v hv=>by obtain⟨x,_,rfl⟩:=List.mem_map.1 he;simp only[BN,bw,bk,or_false]at hv;rcases hv with rfl|rfl<;>rfl
  generalize hgp:P9 c k j=gp at *;obtain⟨loc,hloc⟩:∃loc:AA,loc=(29,cc+1,AX.dead)::(29,cc+1,.vec 151 (gp.map BN))::(29,cc,.vec 151 ((AW c [(k:Int)]).map BN))::D:=⟨_,rfl⟩;have hst2:EP (rs++[loc]):=GF hst fun t _=>by rw[hloc];rcases hD with rfl|⟨g,rfl⟩<;>simp[A2,hcl]
  have hsl:sl (gp.map BN)=.list false (gp.map BN):=by
   cases gp with
   |nil=>simp at hlen
   |cons y ys=>rfl
  obtain⟨L1,c1,r1,r2,r3⟩:=AKN hc hgl hgs (rs++[loc]) hst2 (gl:=.list false (gp.map BN)) (.inl hsl.symm) L hL (cc+1+1) (by omega);have q2:∀n fr,HK (BI bg ann kn (n+6500)) (some 40) ⟨cc+1+1,fr,⟨L::rs,loc⟩⟩ 91 [.ptr 0 911 (γ+1) 0,.list false (gp.map BN)]=some ⟨c1,(40,true,.bool (KQ c (AS c) gp))::fr,⟨L1::rs,loc⟩⟩:=fun n fr=>by rw[A3 Tryz.func91 b91 rfl (by simp),List.cons_append];refine(r3 n 40 fr).trans ?_;rw[<-List.cons_append,CK];rfl
  simp only[hloc]at q2;have hti:=fun fr h=>xU (t:=39) (c:=cc+1+1) (l:=rs.length+1) (q:=29) (γ:=cc+1) (n:=(AW c [(k:Int)]).length+2) (fr:=fr) (s:=⟨L::rs,(29,cc+1,.vec 151 (gp.map BN))::(29,cc,.vec 151 ((AW c [(k:Int)]).map BN))::D⟩) (U:=151) (es:=gp.map BN) h (by simp) (by simp;omega) (by omega);have hal:(((AW c [(k:Int)]).map BN).all fun y=>y.length==bg.cellsOf 151)=true:=by
   have e:bg.cellsOf 151=2:=by kernel_rfl
   simp[e,BN]
  have hcd:=(⟨rfl,rfl,(bx _).symm,hal,by rw[bx];exact happ⟩:cc=cc/\151=151/\(AW c [(k:Int)]).length=((AW c [(k:Int)]).map BN).length/\_/\B9 bg 151 ((AW c [(k:Int)]).map BN).length _=true);have htk:(gp.map BN).take ((AW c [(k:Int)]).length+2)=gp.map BN:=List.take_of_length_le (by simp;omega);have qG:=fun n=>AFX n c (by omega) [(k:Int)] (by simp);have p1:=hL.p1;simp only[C0,AG,li,List.map_cons,bz,AJ]at p1 qG;have hclB:c.chairs.all ((fun e=>e.all (AE 7))∘AU)=true:=List.all_eq_true.2 fun x _=>by simp[AU,BH]
  have hclF:c.fams.all ((fun e=>e.all (AE 7))∘AR)=true:=List.all_eq_true.2 fun x _=>by simp[AR]
  have hcG:∀f:Nat,AE (f+3) (sl ((AW c [(k:Int)]).map BN))=true:=fun f=>by cases AW c [(k:Int)]<;>simp[sl,BN]
  have hwG:weakV (sl ((AW c [(k:Int)]).map BN))=sl ((AW c [(k:Int)]).map BN):=by cases AW c [(k:Int)]<;>simp[sl]
  have w0:IntKind.i64.wrap ((BR c k).size.tdiv 2)=(BR c k).size / 2:=by rw[Int.tdiv_eq_ediv_of_nonneg (by omega),AZ (by omega) (by omega)]
  have w1:IntKind.i64.wrap ((BR c k).size-((j:Int)+1))=(BR c k).size-((j:Int)+1):=AZ (by omega) (by omega);have w2:IntKind.i64.wrap ((j:Int)+1+1)=(j:Int)+1+1:=AZ (by omega) (by omega);cases hz:KQ c (AS c) gp with
  |true=>
   rw[hz]at q2
   have hy:T4 (fun n=>KQ c (AS c) (P9 c k n)) (e+1) j=true:=by simp only[T4,hgp,hz,Bool.true_or]
   refine⟨L1,[],c1,[],r1,by omega,fun n m hm=>?_⟩
   obtain⟨m,rfl⟩:∃k',m=k'+1:=⟨m-1,by omega⟩
   rw[AB,if_pos hy]
   rcases hD with rfl|⟨g,rfl⟩
   ·simp[p1,hlt,w0,w1,qG,q2,hga,hti,htk,hcG,hwG,hclB,hclF,BV,CC,BF,DV,HO,A9];rw[if_pos hcd];done
   ·simp[p1,hlt,w0,w1,qG,q2,hga,hti,htk,hcG,hwG,hclB,hclF,BV,CC,BF,DV,HO,A9];rw[if_pos hcd];done
  |false=>
   rw[hz]at q2
   have hy:T4 (fun n=>KQ c (AS c) (P9 c k n)) (e+1) j=T4 (fun n=>KQ c (AS c) (P9 c k n)) e (j+1):=by simp only[T4,hgp,hz,Bool.false_or]
   obtain⟨L2,D2,c2,x2,hL2,hc2,ih⟩:=lPt c hc k hk rs hst e (j+1) L1 [(29,cc+1,.dead)] c1 (by omega) r1 (by omega) (.inr ⟨_,rfl⟩)
   rw[hy]
   refine⟨L2,D2,c2,x2,hL2,by omega,fun n m hm=>?_⟩
   obtain⟨m,rfl⟩:∃k',m=k'+1:=⟨m-1,by omega⟩
   have ih:=ih n m (by omega)
   rw[AB]
   rcases hD with rfl|⟨g,rfl⟩
   ·simp[p1,hlt,w0,w1,w2,qG,q2,hga,hti,htk,hcG,hwG,hclB,hclF,BV,CC,BF,DV,HO,A9];rw[if_pos hcd];simp at ih;simp[ih];done
   ·simp[p1,hlt,w0,w1,w2,qG,q2,hga,hti,htk,hcG,hwG,hclB,hclF,BV,CC,BF,DV,HO,A9];rw[if_pos hcd];simp at ih;simp[ih];done
theorem AFY{c:AV}(hc:C5 c){γ:Nat}{B:AA}(k:Nat)(hk:k<c.fams.length)(rs:List AA)(hst:EP rs)(L:AA)(hL:Lw c γ B L)(cc:Nat)(hcc:γ+1<cc):∃L' c',Lw c γ B L'/\cc<=c' /\
  ∀n dd fr,aJ bg (some dd) fr Tryz.f94.results.toList (AF bg ann kn (n+7100) 41 c94 ⟨cc,AD 0 [.ptr 0 911 (γ+1) 0,i k],⟨L::rs,[]⟩⟩)=TP (some dd) fr c' (.bool (CZ c k)) (BZ (L'::rs)):=by
 obtain⟨L',D',c',x,h1,h2,h3⟩:=lPt c hc k hk rs hst ((BR c k).size / 2).toNat 0 L [] cc (by omega) hL hcc (.inl rfl)
 have e:CZ c k=T4 (fun n=>KQ c (AS c) (P9 c k n)) ((BR c k).size / 2).toNat 0:=by rw[W9];unfold CZ P9;simp only[Nat.zero_add]
 rw[e]
 refine⟨L',c',h1,h2,fun n dd fr=>?_⟩
 have h3:=h3 (n+44) (n+7094) (by have:=(hc.fo _ (eC hk)).1;omega)
 rw[show n+44+7050=n+7094 by omega]at h3
 have p1:=hL.p1
 have sL:=h1.st
 have sR1:∀(A lo:AA),rs.map (AH ⟨A::rs,lo⟩)=rs:=fun A lo=>hst _ (by simp)
 have hfk:c.fams[k]'hk=BR c k:=by simp[BR,bq hk]
 simp only[C0,AG]at p1
 cases hz:T4 (fun n=>KQ c (AS c) (P9 c k n)) ((BR c k).size / 2).toNat 0 with
 |true=>
  rw[if_pos hz]at h3
  simp at h3
  simp[c94,AD,p1,hfk,hk,AR,BV,CC,BF,h3,sL,sR1]
 |false=>
  rw[if_neg (by rw[hz];decide)]at h3
  simp at h3
  simp[c94,AD,p1,hfk,hk,AR,BV,CC,BF,h3,sL,sR1]
def zW(c:AV):Nat->Nat->List Int
 |0,_=>[]
 |e+1,j=>(if CZ c j=true then[(j:Int)] else[])++zW c e (j+1)
theorem zX(c:AV):∀e j,zW c e j=((List.range' j e).filter (CZ c)).map fun (k:Nat)=>(k:Int)
 |0,_=>rfl
 |e+1,j=>by rw[List.range'_succ,List.filter_cons,zW,zX c e (j+1)];split<;>simp
structure vE(c:AV)(γ γp:Nat)(out:List Int)(L:AA):Prop where
 w:Lw c γ L L
 p1:L.get 1=some (0,.box (AG c))
 p35:L.get 35=(pl 35 γp 3 (out.map AJ)).get 35
 no:∀k,¬k∈[1,35,910,911]->L.get k=none
theorem vE.next{c:AV}{γ γp:Nat}{out:List Int}{L L':AA}(h:vE c γ γp out L)(h':Lw c γ L L'):vE c γ γp out L' where
 w:=⟨h'.p0,h'.p1,h'.st,fun _ _=>rfl⟩
 p1:=(h'.ot 1 (by decide)).trans h.p1
 p35:=(h'.ot 35 (by decide)).trans h.p35
 no:=fun k hk=>(h'.ot k fun e=>hk (by simp[e])).trans (h.no k hk)
def LY(c:AV)(γ γp:Nat)(out:List Int)(T:List (Sp×CD)):AA:=(1,0,.box (AG c))::(pl 35 γp 3 (out.map AJ)++[(910,γ,.map (T.map HJ)),(911,γ+1,.box (C0 c γ))])
theorem Q5{c:AV}{γ γp:Nat}{out:List Int}{T:List (Sp×CD)}(hT:fX c T):vE c γ γp out (LY c γ γp out T) where
 w:=⟨⟨T,hT,by cases out <;> simp[LY]⟩,by cases out <;> simp[LY],fun t ht=>by
  have e0:¬0=t.up.length:=by omega
  have hcE:∀l∈AS c,encA l=l.map fun x=>i x:=fun _ _=>rfl;have hs:=tW t T;obtain⟨up,lo⟩:=t;simp only at e0;have hv:=LD ⟨up,lo⟩ 3 out;cases out <;> (simp[AJ]at hv; simp[LY,C0,AG,AJ,AM,AL,AU,BH,AR,encA,e0,hs,hv]),fun _ _=>rfl⟩
 p1:=by simp[LY]
 p35:=by cases out<;>simp[LY]
 no:=fun k hk=>by simp only[bw,bk,or_false,not_or]at hk;cases out<;>simp[LY,hk.1,hk.2.1,hk.2.2.1,hk.2.2.2]
theorem lPa(c:AV)(hc:C5 c)(γ:Nat):∀(d k:Nat) (out:List Int) (L:AA) (γp cc:Nat),k+d=c.fams.length->out.length<=k->vE c γ γp out L->γ+1<cc->γp<cc ->
  ∃(γ' c':Nat) (L':AA) (fr:Fr),vE c γ γ' (out++zW c d k) L'/\BS fr 6=some (true,pv 35 γ' ((out++zW c d k).map AJ))/\∀n m,d<m ->
   BM (AF bg ann kn (n+7500) 38) XR (ann 38 (B0 XR)) m ⟨cc,[(4,true,.ptr 0 911 (γ+1) 0),(6,true,pv 35 γp (out.map AJ)),(25,true,i c.fams.length),(26,true,i k)],⟨[],L⟩⟩ =
    some (.exit 0,⟨c',fr,⟨[],L'⟩⟩)
 |0,k,out,L,γp,cc,hd,ho,hL,hcc,hcp=>by
  have hnot:¬((k:Int)<(c.fams.length:Int)):=by omega
  obtain⟨T,hT,p910⟩:=hL.w.p0;have p911:=hL.w.p1;have p1:=hL.p1;have p35:=hL.p35;have n10:=hL.no 10 (by decide);have n21:=hL.no 21 (by decide);refine⟨γp,cc,LY c γ γp out T,[(27,true,.bool false),(4,true,.ptr 0 911 (γ+1) 0),(6,true,pv 35 γp (out.map AJ)),(25,true,i c.fams.length),(26,true,i k)],by rw[zW,List.append_nil];exact Q5 hT,?g1,fun n m hm=>?g⟩;case g=>
   obtain⟨m,rfl⟩:∃k',m=k'+1:=⟨m-1,by omega⟩
   cases out<;>simp[AB,LY,hnot,p1,p35,p910,p911,n10,n21]
  case g1=>simp[zW]
 |d+1,k,out,L,γp,cc,hd,ho,hL,hcc,hcp=>by
  have hfl:=hc.fl;have hk:k<c.fams.length:=by omega
  have hlt:(k:Int)<(c.fams.length:Int):=by omega
  have hw:=B5 (k:=k) (by omega);obtain⟨T,hT,o910⟩:=hL.w.p0;have o911:=hL.w.p1;have o1:=hL.p1;have o35:=hL.p35;have m10:=hL.no 10 (by decide);have m21:=hL.no 21 (by decide);have hA:=Q5 (c:=c) (γ:=γ) (γp:=γp) (out:=out) hT;obtain⟨L1,c1,r1,r2,r3⟩:=AFY hc k hk [] (fun _ _=>rfl) (LY c γ γp out T) hA.w cc hcc;have hB:=hA.next r1;obtain⟨T1,hT1,p910⟩:=hB.w.p0;have p911:=hB.w.p1;have p1:=hB.p1;have p35:=hB.p35;have n10:=hB.no 10 (by decide);have n21:=hB.no 21 (by decide);have q2:∀n fr,HK (BI bg ann kn (n+7100)) (some 31) ⟨cc,fr,⟨[],LY c γ γp out T⟩⟩ 94 [.ptr 0 911 (γ+1) 0,i k]=some ⟨c1,(31,true,.bool (CZ c k))::fr,⟨[],L1⟩⟩:=fun n fr=>by rw[A3 Tryz.func94 b94 rfl (by simp)];exact r3 n 31 fr
  have happ:B9 bg 3 out.length [[.int .i64 k]]=true:=by rw[CQ (by simp) (by simp)];simp[maxLen];omega
  have hpt:zW c (d+1) k=(if CZ c k=true then[(k:Int)] else[])++zW c d (k+1):=rfl;rw[hpt];cases hz:CZ c k with
  |true=>
   rw[hz]at q2
   obtain⟨γ',c',L',fr,h1,h2,h3⟩:=lPa c hc γ d (k+1) (out++[(k:Int)]) (LY c γ c1 (out++[(k:Int)]) T1) c1 (c1+1) (by omega) (by simp;omega) (Q5 hT1) (by omega) (by omega)
   rw[if_pos rfl,<-List.append_assoc]
   refine⟨γ',c',L',fr,h1,h2,fun n m hm=>?_⟩
   obtain⟨m,rfl⟩:∃k',m=k'+1:=⟨m-1,by omega⟩
   have h3:=h3 n m (by omega)
   rw[AB]
   cases out with
   |nil=>
    simp[LY,AJ,pv]at h3 q2 happ
    simp[hlt,hw,AJ,HO,DV,happ,o1,o35,o910,o911,m10,m21,q2,p1,p35,p910,p911,n10,n21,h3]
   |cons a r=>
    simp[LY,AJ]at h3 q2 happ
    simp[hlt,hw,AJ,HO,DV,happ,o1,o35,o910,o911,m10,m21,q2,p1,p35,p910,p911,n10,n21,h3]
  |false=>
   rw[hz]at q2
   obtain⟨γ',c',L',fr,h1,h2,h3⟩:=lPa c hc γ d (k+1) out (LY c γ γp out T1) γp c1 (by omega) (by omega) (Q5 hT1) (by omega) (by omega)
   rw[if_neg (by decide),List.nil_append]
   refine⟨γ',c',L',fr,h1,h2,fun n m hm=>?_⟩
   obtain⟨m,rfl⟩:∃k',m=k'+1:=⟨m-1,by omega⟩
   have h3:=h3 n m (by omega)
   rw[AB]
   cases out with
   |nil=>
    simp[LY,AJ]at h3 q2 happ
    simp[hlt,hw,AJ,HO,DV,happ,o1,o35,o910,o911,m10,m21,q2,p1,p35,p910,p911,n10,n21,h3]
   |cons a r=>
    simp[LY,AJ]at h3 q2 happ
    simp[hlt,hw,AJ,HO,DV,happ,o1,o35,o910,o911,m10,m21,q2,p1,p35,p910,p911,n10,n21,h3]
theorem ANP(n:Nat)(c:AV)(h40:∀l∈c.beach.winds,l.length<=40)(hch:c.chairs.length<=40):A8 bg kn (AF bg ann kn (n+9600)) 42 [.agg (AG c)]=some (.tup [sl ((dZ c).1.map AJ),i (dZ c).2]):=by
 rw[AP rfl,AQ Tryz.func42 b42 rfl (by simp[AG,AJ,AM,AL,AU,BH,AR])];unfold dZ;by_cases h:D6 c=0
 ·rw[if_neg (by simp[h])];have hc:=KY h;have hfl:=hc.fl;obtain⟨g',hg,q⟩:=rK c hc [(1,0,.box (AG c))] (fun t _=>rL c 1 0 t) 1 10 [(9,true,.agg (AG c)),(1,true,.ptr 0 1 0 0)];have q:=fun n=>q (n+1596);have hT0:fX c []:=⟨by simp,by simp,by simp⟩;have hgs:∀x∈AW c [],x.1<c.fams.length/\1<=x.2/\x.2<=4:=fun x hx=>LZ hc [] _ (bc _) x hx;have hgl:(AW c []).length<=9:=by rw[NI];omega
  obtain⟨L1,c1,r1,r2,r3⟩:=AKN hc hgl hgs [] (fun _ _=>rfl) (.inl rfl) (rP c 1 2) (zU c 1 2 (by omega)) g' (by omega);have hcb:=fun n fr=>(A3 (A:=ann) (kn:=kn) (n:=n+6500) Tryz.func91 b91 rfl (args:=[.ptr 0 911 (2+1) 0,sl ((AW c []).map BN)]) (by simp) (some 22) g' fr [] (rP c 1 2)).trans (r3 n 22 fr);have qG:=fun n=>rN n c (by omega) [] (by simp);have hwG:weakV (sl ((AW c []).map BN))=sl ((AW c []).map BN):=by cases AW c []<;>simp[sl]
  have hca:WB c []=KQ c (AS c) (AW c []):=rfl;rw[hca];obtain⟨T1,hT1,p910⟩:=r1.p0;have p911:=r1.p1;have p1:L1.get 1=some (0,.box (AG c)):=r1.ot 1 (by decide);have hno:∀k,¬k∈[1,910,911]->L1.get k=none:=fun k hk=>(r1.ot k fun e=>hk (by simp[e])).trans (by
   simp only[bw,bk,or_false,not_or]at hk;simp[rP,hk.1,hk.2.1,hk.2.2])
  have n10:=hno 10 (by decide);have n21:=hno 21 (by decide);have n35:=hno 35 (by decide);generalize sl ((AW c []).map BN)=gl at *;cases hz:KQ c (AS c) (AW c [])with
  |true=>
   rw[hz]at hcb
   simp only[AG,C0,rP,li,bz,bb]at q qG hcb p1 p911|-
   simp at hcb
   simp[c42,AD,AU,BH,AR,q,qG,hcb,hwG,p1,p910,p911,n10,n21,n35,WL]
  |false=>
   rw[hz]at hcb
   obtain⟨γ',c',L',fr,h1,h2,h3⟩:=lPa c hc 2 c.fams.length 0 [] (LY c 2 0 [] T1) 0 c1 (by omega) (by simp) (Q5 hT1) (by omega) (by omega)
   rw[List.nil_append]at h1 h2
   have e:zW c c.fams.length 0=((bf c.fams.length).filter (CZ c)).map fun (k:Nat)=>(k:Int):=by rw[zX,<-List.range_eq_range']
   rw[<-e]
   have h3:=h3 (n+2091) (n+9591) (by omega)
   rw[show n+2091+7500=n+9591 by omega]at h3
   obtain⟨T2,hT2,y910⟩:=h1.w.p0
   have y911:=h1.w.p1
   have y1:=h1.p1
   have y35:=h1.p35
   generalize zW c c.fams.length 0=R at *
   have hcR:∀f:Nat,AE (f+3) (sl (R.map AJ))=true:=fun f=>by cases R<;>simp[sl,AJ]
   simp only[AG,C0,rP,LY,li,bz,bb]at q qG hcb p1 p911 h3|-
   simp at hcb h3
   simp[c42,AD,AU,BH,AR,q,qG,hcb,hwG,p1,p910,p911,n10,n21,n35,h3,h2,y1,y35,y910,y911,hcR]
 ·rw[if_pos h];have q:=W8 c h40 hch h [(1,0,.box (AG c))] (fun t _=>rL c 1 0 t) 1 10 [(9,true,.agg (AG c)),(1,true,.ptr 0 1 0 0)];have q:=fun n=>q (n+1596);generalize D6 c=E at *;simp only[AG,Nat.add_assoc,bb]at q|-;simp[c42,AD,AU,BH,AR,q,h,WL]
end Go.Proofs.Tryz.Op
