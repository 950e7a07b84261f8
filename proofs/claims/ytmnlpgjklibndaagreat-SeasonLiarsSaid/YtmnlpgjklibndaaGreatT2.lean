/- The map of lines that 'Was' keeps: a look, a store. No condition. -/
import Derived.Test.YtmnlpgjklibndaaGreatT1
open Go.Proofs.Tryz renaming prog->cx,underlying96->cz
open List renaming drop_eq_getElem_cons->bj,map_append->bq,getD_eq_getElem?_getD->bw,replicate->bx,append_inj_right'->bz,getElem_mem->bc,map_cons->bf,mem_cons->bg,append_inj_left'->bh,length_filter_le->bn,map_nil->bp,take_succ_cons->bt,map->cq
open Nat renaming le_refl->br,add_assoc->cj,reduceAdd->ck
set_option maxRecDepth 100000
set_option linter.unusedSimpArgs false
open Go Go.Pg Go.Proofs
namespace Go.Proofs.Tryz.Op
instance decLine:DecidableEq AE:=fun a b=>
 if h:a.k=b.k/\a.c=b.c/\a.t=b.t then isTrue (by obtain⟨a1,a2,a3⟩:=a;obtain⟨b1,b2,b3⟩:=b;simp only at h;obtain⟨rfl,rfl,rfl⟩:=h;rfl)
 else isFalse (by intro e;subst e;exact h ⟨rfl,rfl,rfl⟩)
def MF(l:AE):V×V:=(.agg (AB l),.bool true)
def fI(x:AE)(L:List AE):List AE:=if x∈L then L else L++[x]
structure okF(L:List AE):Prop where
 ok:∀x∈L,MH x
 nd:L.Nodup
theorem lR{x y:AE}{L:List AE}:y∈fI x L↔y=x\/y∈L:=by
 unfold fI;split
 ·rename_i h;exact⟨.inr,fun hh=>hh.elim (fun e=>e▸h) id⟩
 ·simp only[List.mem_append,List.mem_singleton,or_comm]
theorem AIG{x:AE}{L:List AE}(h:okF L)(hx:MH x):okF (fI x L) where
 ok:=fun y hy=>(lR.1 hy).elim (fun e=>e▸hx) (h.ok y)
 nd:=by
  unfold fI;split
  ·exact h.nd
  ·rename_i hn;rw[List.nodup_append];exact⟨h.nd,by simp,fun a ha b hb e=>hn (by simp at hb;rw[<-hb,<-e];exact ha)⟩
theorem BCH(d:Nat){a b c:Int}(ha:(Lit.int .i64 a).wf=true)(hb:(Lit.int .i64 b).wf=true)(hc:(Lit.int .i64 c).wf=true) :
  cx.keyLits (d+2) 96 [.int .i64 a,.int .i64 b,.int .i64 c]=some [.int .i64 a,.int .i64 b,.int .i64 c]:=by
 have c3:cx.cellsOf 3=1:=QU
 unfold Program.keyLits
 rw[cz]
 simp only
 rw[if_pos (by rw[gP];exact⟨rfl,by decide +kernel⟩)]
 simp[List.mapM_cons,c3,kl3 d ha,kl3 d hb,kl3 d hc]
theorem AIH:cx.keyType 96=true:=by kernel_rfl
theorem A4F:cx.types.size+1=(cx.types.size-1)+2:=by have:2<=cx.types.size:=of_decide_eq_true (by kernel_rfl);omega
theorem AD4(x:AE)(h:MH x):O3 cx 96 (.agg (AB x))=some (AB x):=by
 obtain⟨k,c,t⟩:=x;obtain⟨hk,hc,ht⟩:=h;have q:=BCH (cx.types.size-1) (YR hk) (YR hc) (YR ht);rw[<-A4F]at q;have hf:(Value.agg #[.int .i64 k,.int .i64 c,.int .i64 t]).formed cx 96=true:=by unfold Value.formed;rw[cz];simp[gP]
 have hko:(keyOf cx 96 (.agg #[.int .i64 k,.int .i64 c,.int .i64 t])).isSome=true:=by unfold keyOf;rw[cz];simp only;rw[if_pos (by rw[AIH,hf];rfl),Option.isSome_map];simp only at q;exact Option.isSome_iff_exists.2 ⟨_,q⟩
 have hp:DD (AB ⟨k,c,t⟩)=some [.int .i64 k,.int .i64 c,.int .i64 t]:=rfl;unfold O3;simp only[hp];rw[if_pos hko]
theorem AD5:gV cx 96=true:=by kernel_rfl
theorem tI:nB cx 195=some (96,4):=by kernel_rfl
theorem A4G(x y:AE):rV (AB x) (AB y)=some (decide (x=y)):=by have:=YY [x.k,x.c,x.t] [y.k,y.c,y.t] rfl;show rV (i x.k::i x.c::[i x.t]) (i y.k::i y.c::[i y.t])=_;simp only[bf,bp]at this;rw[this];congr 1;obtain⟨k,c,t⟩:=x;obtain⟨k',c',t'⟩:=y;rw[Bool.eq_iff_iff];simp
def ZW(x:AE):List AE->Nat->List Nat
 |[],_=>[]
 |p::L,j=>if p=x then j::ZW x L (j+1) else ZW x L (j+1)
theorem fJ(x:AE):∀(L:List AE) (j:Nat),(∀p∈L,MH p)->HE cx 96 (AB x) (L.map MF) j=some (ZW x L j)
 |[],_,_=>rfl
 |p::L,j,h=>by have ih:=fJ x L (j+1) (fun q hq=>h q (by simp[hq]));simp only[bf,MF,HE,AD4 p (h p (by simp)),A4G p x];have ih':HE cx 96 (AB x) (cq MF L) (j+1)=some (ZW x L (j+1)):=ih;rw[ih'];simp[ZW]
theorem OP(x:AE):∀(L:List AE) (j:Nat),x∉L->ZW x L j=[]
 |[],j,_=>rfl
 |p::L,j,h=>by simp only[bg,not_or]at h;have hp:¬p=x:=fun hh=>h.1 hh.symm;simp[ZW,hp,OP x L (j+1) h.2]
theorem TI(x:AE):∀(L:List AE) (j:Nat),x∈L->L.Nodup->∃k,ZW x L j=[j+k]/\L[k]? = some x
 |p::L,j,h,hn=>by
  simp only[List.nodup_cons]at hn;by_cases hp:p=x
  ·exact⟨0,by simp[ZW,hp,OP x L (j+1) (by rw[<-hp];exact hn.1)],by simp[hp]⟩
  ·obtain⟨k,i1,i2⟩:=TI x L (j+1) ((bg.1 h).resolve_left fun hh=>hp hh.symm) hn.2;exact⟨k+1,by simp[ZW,hp,i1];omega,by simpa using i2⟩
theorem xE{s:St}{l q g:Nat}{L:List AE}{x:AE}(hs:s.get l q=some (g,.map (L.map MF)))(hL:okF L)(hx:MH x) :
  CG cx s 195 (.mp l q g) (.agg (AB x)) false=some (.bool (decide (x∈L))):=by
 unfold CG
 simp only[tI,hs,AD5,AD4 x hx,fJ x L 0 hL.ok,and_self,if_true]
 by_cases h:x∈L
 ·obtain⟨k,i1,i2⟩:=TI x L 0 h hL.nd;simp[i1,i2,MF,h]
 ·simp[OP x L 0 h,tU,h]
theorem AD6{α:Type}{l:List α}{k:Nat}{x:α}(h:l[k]? = some x):l.set k x=l:=by
 apply List.ext_getElem?;intro j;rw[List.getElem?_set];split
 ·rename_i e;subst e;split
  ·exact h.symm
  ·rename_i hn;rw[List.getElem?_eq_none (by omega)]at h;cases h
 ·rfl
theorem AD7{s:St}{l q g:Nat}{L:List AE}{x:AE}(hs:s.get l q=some (g,.map (L.map MF)))(hL:okF L)(hx:MH x) :
  H4 cx s 195 (.mp l q g) (.agg (AB x)) (.bool true)=some (l,q,g,(fI x L).map MF):=by
 unfold H4
 simp only[tI,hs,AD5,AD4 x hx,fJ x L 0 hL.ok,and_self,if_true]
 by_cases h:x∈L
 ·obtain⟨k,i1,i2⟩:=TI x L 0 h hL.nd;have e:(L.map MF).set k (V.agg (AB x),V.bool true)=L.map MF:=AD6 (by simp[i2,MF]);simp[i1,fI,h,e]
 ·simp[OP x L 0 h,fI,h,MF]
@[simp] theorem xF(s:St)(L:List AE):BM s (.map (L.map MF))=.map (L.map MF):=by
 have:BN s (.map (L.map MF))=some (.map (L.map MF)):=by unfold BN;simp only;rw[HT];intro x hx;simp only[List.mem_map]at hx;obtain⟨p,_,rfl⟩:=hx;rfl
 unfold BM;rw[this]
noncomputable def US(b:AY):Fr:=[(22,true,.fn 169 [] [.ref (AC b)]),(21,true,.agg (AC b)),(2,true,.ptr 0 2 0 0),(3,true,.ptr 0 3 1 0),(7,true,.ptr 0 7 3 0)]
noncomputable def KE:Code:=.block 1 (GK 343)
@[simp] theorem u33(n:Nat)(st:XS):AG cx ann kn n 39 KE st=AG cx ann kn n 39 (.block 1 (GK 343)) st:=rfl
structure A4H(b:AY)(k:Nat)(a:List AE)(L:AA):Prop where
 p2:L.get 2=some (0,.box (AC b))
 p3:L.get 3=some (1,.box [i k])
 p7:L.get 7=some (3,.box [.mp 0 20 2])
 p20:L.get 20=some (2,.map (a.map MF))
 p22:L.get 22=none
 p36:L.get 36=none
 pr:L.get A7=some (4,.loop (US b) [23,24] (GK 151) KE 39 .ready)
 st:∀t:St,1<=t.up.length->AN t L=L
 ok:okF a
def PO(k:Nat)(a:List AE)(ls:List AE)(_:List AW):List AE:=fI (ls.getD k CO) a
theorem QC{b:AY}(hb:QF b){j:Nat}(hj:j<b.lines.length){x:AE}(hx:x∈readingsP b.chairs b.lines[j]):MH x:=by have h4:=hb.ch4;obtain⟨h1,h2,h3⟩:=I3 hb.ch4 (List.all_eq_true.1 hb.lok _ (bc hj)) hx;exact⟨⟨by omega,by omega⟩,⟨by omega,by omega⟩,⟨by omega,by omega⟩⟩
theorem ARP{b:AY}(hb:QF b){k:Nat}(hk:k<b.lines.length):IF b (A4H b k) (PO k) 4 600:=by
 intro a L L1 rest loc c fr ls ss g9 g14 hL hc hp p9 p14 hst;obtain⟨p2,p3,p7,p20,p22,p36,pr,pst,pok⟩:=hL;have hll:=hp.ll;have hkl:k<ls.length:=by omega
 have hx:=hp.rd k hkl hk;have hok:=QC hb hk hx;have hgd:ls.getD k CO=ls[k]:=by simp[bw,hkl]
 have hgk:(ls.map AB)[k]? = some (AB ls[k]):=by simp[hkl]
 have hu:=fun s h=>AD7 (s:=s) (l:=0) (q:=20) (g:=2) (L:=a) (x:=ls[k]) h pok hok;have hki:(k:Int)<(b.lines.length:Int):=by omega
 have hst':=fun t h=>hst t h;simp only[bf,bq,bp,List.cons.injEq]at hst';have hun:∀A:AA,CM (A::L1::(rest++[loc]))=some (A::L1::rest,loc):=fun A=>by rw[<-List.cons_append,<-List.cons_append,unsnoc_snoc]
 have hsr:∀t:St,(L1::(rest++[loc])).length+1<=t.up.length->(rest.map (AN t)=rest/\AN t loc=loc):=fun t h=>by have:=(hst' t h).2;exact⟨bh this rfl,by simpa using bz this rfl⟩
 have h1s:∀t:St,(L1::(rest++[loc])).length+1<=t.up.length->AN t L1=L1:=fun t h=>(hst' t h).1;have e2:2<c:=by omega
 have hok':=AIG (x:=ls[k]) pok hok;unfold PO;rw[hgd];generalize hA:fI ls[k] a=a' at hu hok'|-;refine⟨(A7,4,.loop (US b) [23,24] (GK 151) KE 39 .ready)::(20,2,.map (a'.map MF))::(A7,4,.loop (US b) [23,24] (GK 151) KE 39 .busy)::L,c,?_,by omega,fun n=>?_⟩
 ·exact⟨by simpa [A7]using p2,by simpa [A7]using p3,by simpa [A7]using p7,by simp[A7],by simpa [A7]using p22,by simpa [A7]using p36,by simp,fun t ht=>by simp[pst t ht],hok'⟩
 ·rw[MC (by simpa using pr) rfl (by omega)];simp only[GO,Fr.put,AM3,US];simp;rw[D8 (fr0:=US b) (ps:=[23,24]) (asg:=(GK 151)) (body':=KE) (N:=39) (by simpa using pr) (by omega)];generalize hB:AZ.loop (US b) [23,24] (GK 151) KE 39 LS.busy=B;simp only[AB]at hgk hu;simp[p2,p3,p7,p20,p9,hgk,hu,hki,hkl,hll,AA.put,A7,e2,YC];subst hB;rw[D9 (fr0:=US b) (ps:=[23,24]) (asg:=(GK 151)) (body:=KE) (N:=39) (by simp) (hun _) (by simp) (by omega)];simp[pst,h1s,hsr,AA.put,US];done
end Go.Proofs.Tryz.Op
namespace Go.Pg
variable {P:Program}{E:XE}{c:Nat}{fr:Fr}{s:St}{r:Operand->Option V}
end Go.Pg
namespace Go.Proofs.Tryz.Op
structure ZX(γ:Nat)(a R:List AE)(L:AA):Prop where
 p7:L.get 7=some (3,.box [.mp 0 20 2])
 p20:L.get 20=some (2,.map (a.map MF))
 p36:L.get 36=some (γ,.vec 96 (R.map AB))
 st:∀t:St,1<=t.up.length->AN t L=L
theorem pV{rs:List AA}{loc:AA}{t:St}(h:(rs++[loc]).map (AN t)=rs++[loc]):rs.map (AN t)=rs/\AN t loc=loc:=by simp only[bq,bf,bp]at h;exact⟨bh h rfl,by simpa using bz h rfl⟩
theorem k82(n:Nat){γ:Nat}{a R:List AE}{L:AA}(hL:ZX γ a R L)(ha:okF a)(rs:List AA)(loc:AA)(hst:∀t:St,rs.length+2<=t.up.length->(rs++[loc]).map (AN t)=rs++[loc])(x:AE)(hx:MH x)(c dd:Nat)(fr:Fr) :
  ME (BR cx ann kn (n+100)) (some dd) ⟨c,fr,⟨L::rs,loc⟩⟩ 143 [.agg (AB x),.ptr 0 7 3 0]=some ⟨c+1,(dd,true,.bool (!decide (x∈a)))::fr,⟨L::rs,loc⟩⟩:=by
 have hu:=fun s h=>xE (s:=s) (l:=0) (q:=20) (g:=2) (L:=a) (x:=x) h ha hx
 have p7:=hL.p7
 have p20:=hL.p20
 rw[BP Tryz.func143 b143 rfl (by simp)]
 have h1:=fun t h=>hst t h
 have h2:=hL.st
 simp only[AB]at hu|-
 simp[AZA,AH,p7,p20,hu]
 have q:=fun t h=>pV (hst t h)
 exact⟨⟨h2 _ (by simp),(q _ (by simp)).1⟩,(q _ (by simp)).2⟩
def NY(a:List AE):Nat->List AE->Option Nat
 |_,[]=>none
 |k,x::r=>if x∈a then NY a (k+1) r else some k
theorem ALS{γ:Nat}{a xs:List AE}{L:AA}(hL:ZX γ a xs L)(ha:okF a)(hxs:∀x∈xs,MH x)(rs:List AA)(hst:∀t:St,rs.length+1<=t.up.length->rs.map (AN t)=rs)(hl:xs.length<=40) :
  ∀(d k c:Nat),k+d=xs.length->∃c',c<=c'/\∀n m,d<m ->
  BS (AG cx ann kn (n+200) 19) OB (some ([0,1,3,7,8],[3])) m ⟨c,[(0,true,.vec 0 36 γ xs.length),(1,true,.fn 143 [] [.ptr 0 7 3 0]),(7,true,i xs.length),(8,true,i k)],⟨L::rs,[]⟩⟩ =
   match NY a k (xs.drop k)with
   |some j=>some (.ret,⟨c',[(4,true,i j),(17,true,i j),(5,true,i j)],⟨L::rs,[]⟩⟩)
   |none=>some (.exit 0,⟨c',[(9,true,.bool false),(0,true,.vec 0 36 γ xs.length),(1,true,.fn 143 [] [.ptr 0 7 3 0]),(7,true,i xs.length),(8,true,i xs.length)],⟨L::rs,[]⟩⟩)
 |0,k,c,hd=>by
  have hk:k=xs.length:=by omega
  subst hk;refine⟨c,br _,fun n m hm=>?_⟩;obtain⟨m,rfl⟩:=qNz m (by omega);rw[List.drop_length];simp[AD,NY];done
 |d+1,k,c,hd=>by
  have hk:k<xs.length:=by omega
  have hw:IntKind.i64.wrap ((k:Int)+1)=(k:Int)+1:=AV (by omega) (by omega);have p36:=hL.p36;have hgk:(xs.map AB)[k]? = some (AB xs[k]):=by simp[hk]
  obtain⟨c',i0,ih⟩:=ALS hL ha hxs rs hst hl d (k+1) (c+1) (by omega);have q:=fun n c dd fr=>k82 n hL ha rs [] (fun t h=>by rw[bq,hst t (by omega)];rfl) xs[k] (hxs _ (bc hk)) c dd fr;rw[bj hk];simp only[NY];simp only[AB]at hgk q;by_cases he:xs[k]∈a
  ·rw[if_pos he];simp only[he,decide_true,Bool.not_true]at q;refine⟨c',by omega,fun n m hm=>?_⟩;obtain⟨m,rfl⟩:=qNz m (by omega);have ih:=ih n m (by omega);rw[AD];try simp at ih
   simp[hk,hw,p36,hgk,AB,q,ih];done
  ·rw[if_neg he];simp only[he,decide_false,Bool.not_false]at q;refine⟨c+1,by omega,fun n m hm=>?_⟩;obtain⟨m,rfl⟩:=qNz m (by omega);rw[AD];simp[hk,hw,p36,hgk,AB,q];done
def AD8:Option Nat->Int
 |some j=>j
 |none=>-1
theorem A4I(n:Nat){γ:Nat}{a xs:List AE}{L:AA}(hL:ZX γ a xs L)(ha:okF a)(hxs:∀x∈xs,MH x)(hl:xs.length<=40)(c dd:Nat)(fr:Fr) :
  ∃c',c<=c'/\ME (BR cx ann kn (n+300)) (some dd) ⟨c,fr,⟨[L],[]⟩⟩ 172 [.vec 0 36 γ xs.length,.fn 143 [] [.ptr 0 7 3 0]]=some ⟨c',(dd,true,i (AD8 (NY a 0 xs)))::fr,⟨[L],[]⟩⟩:=by
 obtain⟨c',i0,h⟩:=ALS hL ha hxs [[]] (fun t _=>by simp) hl xs.length 0 c (by omega)
 have h:=h (n+95) (n+295) (by omega)
 have hs:=hL.st
 refine⟨c',i0,?_⟩
 rw[BP Tryz.func172 b172 rfl (by simp)]
 rw[List.drop_zero]at h
 generalize NY a 0 xs=q at h
 cases q with
 |some j=>simp at h;simp[zR,AH,h,hs,AD8]
 |none=>simp at h;simp[zR,AH,h,hs,AD8]
theorem ZX.set{γ:Nat}{a R:List AE}{L:AA}(h:ZX γ a R L)(j:Nat)(x:AE):ZX γ a (R.set j x) ((36,γ,.vec 96 ((R.map AB).set j (AB x)))::L) where
 p7:=by simpa using h.p7
 p20:=by simpa using h.p20
 p36:=by simp[List.map_set]
 st:=by intro t ht;rw[B5,h.st t ht,<-mG,EI]
theorem l80{γ:Nat}{a xs:List AE}(ha:okF a)(hxs:∀x∈xs,MH x)(hl:xs.length<=40):∀(d j:Nat) (R:List AE) (L:AA) (c:Nat),j+d=xs.length->R.length=xs.length->R.take ((xs.take j).filter (·∈a)).length=(xs.take j).filter (·∈a)->R.drop j=xs.drop j->ZX γ a R L->γ<c ->
  ∃L' R' c',c<=c'/\ZX γ a R' L'/\R'.length=xs.length/\R'.take (xs.filter (·∈a)).length=xs.filter (·∈a)/\∀n m,d<m ->
  BS (AG cx ann kn (n+300) 42) VG (some ([0,1,5,6],[])) m ⟨c,[(0,true,.vec 0 36 γ xs.length),(1,true,.fn 143 [] [.ptr 0 7 3 0]),(5,true,i ((xs.take j).filter (·∈a)).length),(6,true,i j)],⟨[L],[]⟩⟩ =
   some (.exit 0,⟨c',[(19,true,.bool false),(18,true,i xs.length),(17,true,.vec 0 36 γ xs.length),(16,true,i xs.length),(0,true,.vec 0 36 γ xs.length),(1,true,.fn 143 [] [.ptr 0 7 3 0]),(5,true,i (xs.filter (·∈a)).length),(6,true,i xs.length)],⟨[L'],[]⟩⟩)
 |0,j,R,L,c,hd,hR,ht,hdr,hL,hc=>by
  have hj:j=xs.length:=by omega
  subst hj;rw[List.take_length]at ht|-;refine⟨L,R,c,br _,hL,hR,ht,fun n m hm=>?_⟩;obtain⟨m,rfl⟩:=qNz m (by omega);generalize (xs.filter (·∈a)).length=F;simp[AD];done
 |d+1,j,R,L,c,hd,hR,ht,hdr,hL,hc=>by
  have hj:j<xs.length:=by omega
  have hjR:j<R.length:=by omega
  have hw:IntKind.i64.wrap ((j:Int)+1)=(j:Int)+1:=AV (by omega) (by omega);have hRj:R[j]=xs[j]:=by rw[bj hj,bj hjR]at hdr;exact(List.cons.inj hdr).1
  have hdr':R.drop (j+1)=xs.drop (j+1):=by rw[bj hj,bj hjR]at hdr;exact(List.cons.inj hdr).2
  have p36:=hL.p36;have hgk:(R.map AB)[j]? = some (AB xs[j]):=by simp[hjR,hRj]
  have hxj:=hxs _ (bc hj);have hf:(xs.take (j+1)).filter (·∈a)=(xs.take j).filter (·∈a)++(if xs[j]∈a then[xs[j]] else[]):=by rw[List.take_succ_eq_append_getElem hj,List.filter_append];congr 1;by_cases he:xs[j]∈a<;>simp[he]
  have hfl:((xs.take j).filter (·∈a)).length<=j:=by
   have:=bn (fun x=>decide (x∈a)) (xs.take j);try simp at this
   omega
  have q:=fun n loc (hloc:∀t:St,2<=t.up.length->AN t loc=loc) c dd fr=>k82 n hL ha [] loc (fun t h=>by simp[hloc t (by simpa using h)]) xs[j] hxj c dd fr;by_cases he:xs[j]∈a
  ·rw[if_pos he]at hf;simp only[he,decide_true,Bool.not_true]at q;have hlen:((xs.take (j+1)).filter (·∈a)).length=((xs.take j).filter (·∈a)).length+1:=by rw[hf];simp
   have hL':=hL.set ((xs.take j).filter (·∈a)).length xs[j];obtain⟨L',R',c',i0,i1,i2,i3,ih⟩:=l80 (γ:=γ) ha hxs hl d (j+1) (R.set ((xs.take j).filter (·∈a)).length xs[j]) _ (c+1+1) (by omega) (by simp[hR]) (by rw[hlen,hf];exact N8 ht (by omega)) (by rw[List.drop_set_of_lt (by omega)];exact hdr') hL' (by omega);refine⟨L',R',c',by omega,i1,i2,i3,fun n m hm=>?_⟩;obtain⟨m,rfl⟩:=qNz m (by omega);have ih:=ih n m (by omega);rw[hlen]at ih;rw[AD];generalize hF:((xs.take j).filter (·∈a)).length=F at *;have hw2:IntKind.i64.wrap ((F:Int)+1)=(F:Int)+1:=AV (by omega) (by omega);have hFR:F<R.length:=by omega
   have hc2:γ<c+1+1:=by omega
   have hFx:F<xs.length:=by omega
   simp only[AB]at hgk q;simp[AB]at ih;simp[hj,hw,hw2,p36,hgk,AB,hRj,q,hFR,hFx,hR,hc,hc2,AA.put,ih];done
  ·rw[if_neg he,List.append_nil]at hf;simp only[he,decide_false,Bool.not_false]at q;obtain⟨L',R',c',i0,i1,i2,i3,ih⟩:=l80 (γ:=γ) ha hxs hl d (j+1) R L (c+1+1) (by omega) hR (by rw[hf];exact ht) hdr' hL (by omega);refine⟨L',R',c',by omega,i1,i2,i3,fun n m hm=>?_⟩;obtain⟨m,rfl⟩:=qNz m (by omega);have ih:=ih n m (by omega);rw[hf]at ih;rw[AD];generalize hF:((xs.take j).filter (·∈a)).length=F at *;simp only[AB]at hgk q;try simp at ih
   simp[hj,hw,p36,hgk,AB,hR,hRj,q,ih];done
theorem lS{a:List AE}:∀{l:List AE} {k:Nat},NY a k l=none->∀x∈l,x∈a
 |[],_,_,x,hx=>by simp at hx
 |y::r,k,h,x,hx=>by
  unfold NY at h;split at h
  ·rename_i hy;rcases bg.1 hx with rfl|hx
   ·exact hy
   ·exact lS h x hx
  ·cases h
theorem lT{a:List AE}:∀{l:List AE} {k j:Nat},NY a k l=some j->∃m,j=k+m/\m<l.length/\(l.take (m+1)).filter (·∈a)=l.take m
 |[],_,_,h=>by cases h
 |y::r,k,j,h=>by
  unfold NY at h;split at h
  ·rename_i hy;obtain⟨m,e,hm,hf⟩:=lT h;exact⟨m+1,by omega,by simpa using hm,by rw[bt,List.filter_cons_of_pos (p:=fun x=>decide (x∈a)) (decide_eq_true hy),hf,bt]⟩
  ·rename_i hy;cases h;exact⟨0,rfl,by simp,by simp[hy]⟩
theorem k80(n:Nat){γ:Nat}{a xs:List AE}{L:AA}(hL:ZX γ a xs L)(ha:okF a)(hxs:∀x∈xs,MH x)(hl:xs.length<=40)(c dd:Nat)(fr:Fr)(hc:γ<c) :
  ∃L' es c',c<=c'/\L'.get 36=some (γ,.vec 96 es)/\es.take (xs.filter (·∈a)).length=(xs.filter (·∈a)).map AB/\(xs.filter (·∈a)).length<=es.length /\
  ME (BR cx ann kn (n+700)) (some dd) ⟨c,fr,⟨[],L⟩⟩ 141 [.vec 0 36 γ xs.length,.fn 143 [] [.ptr 0 7 3 0]]=some ⟨c',(dd,true,.vec 0 36 γ (xs.filter (·∈a)).length)::fr,⟨[],L'⟩⟩:=by
 obtain⟨c1,i1,q1⟩:∃c1,c<=c1/\_:=A4I (n+397) hL ha hxs hl c 10 [(9,true,.fn 143 [] [.ptr 0 7 3 0]),(8,true,.vec 0 36 γ xs.length),(0,true,.vec 0 36 γ xs.length),(1,true,.fn 143 [] [.ptr 0 7 3 0])]
 have hs:=hL.st
 cases hq:NY a 0 xs with
 |none=>
  rw[hq]at q1
  have hF:xs.filter (·∈a)=xs:=List.filter_eq_self.2 fun x hx=>by simpa using lS hq x hx
  rw[hF]
  refine⟨L,xs.map AB,c1,i1,hL.p36,List.take_of_length_le (by rw[List.length_map];exact br _),by rw[List.length_map];exact br _,?_⟩
  rw[BP Tryz.func141 b141 rfl (by simp)]
  simp only[AD8]at q1
  simp[AM4,AH,q1,hs]
  done
 |some j=>
  rw[hq]at q1
  obtain⟨m,e,hm,hf⟩:=lT hq
  have e:j=m:=by omega
  subst e
  have hfl:((xs.take (j+1)).filter (·∈a)).length=j:=by rw[hf];simp;omega
  obtain⟨L',R',c',i2,h1,h2,h3,h4⟩:=l80 (γ:=γ) ha hxs hl (xs.length-(j+1)) (j+1) xs L c1 (by omega) rfl (by rw[hfl,hf]) rfl hL (by omega)
  have h4:=h4 (n+393) (n+693) (by omega)
  rw[hfl]at h4
  have hFl:(xs.filter (·∈a)).length<=xs.length:=bn _ _
  have hs':=h1.st
  have p36:=h1.p36
  have hw:IntKind.i64.wrap ((j:Int)+1)=(j:Int)+1:=AV (by omega) (by omega)
  have hes:(R'.map AB).take (xs.filter (·∈a)).length=(xs.filter (·∈a)).map AB:=by rw[<-List.map_take,h3]
  generalize hFF:(xs.filter (·∈a)).length=F at *
  have hFR:F<=(R'.map AB).length:=by simp;omega
  refine⟨(36,γ,.vec 96 ((R'.map AB).take F++bx (xs.length-F) [V.int .i64 0,V.int .i64 0,V.int .i64 0]++(R'.map AB).drop xs.length))::L',((R'.map AB).take F++bx (xs.length-F) [V.int .i64 0,V.int .i64 0,V.int .i64 0]++(R'.map AB).drop xs.length),c',by omega,by simp,?_,?_,?_⟩
  ·rw[List.append_assoc,List.take_append_of_le_length (by simp;omega),List.take_take,Nat.min_self,hes]
  ·simp;omega
  ·rw[BP Tryz.func141 b141 rfl (by simp)];simp only[AD8]at q1;try simp at h4
   have hFi:(F:Int)<=(xs.length:Int):=by omega
   have hne:R'.map AB≠[]:=by
    intro h0;have:=congrArg List.length h0;try simp at this
    rw[this]at h2;try simp at h2
    omega
   have hal:(R'.map AB).all (fun x=>x.length==cx.cellsOf 96)=true:=by simp[AB]
   have v1:=wN (P:=cx) (s:=⟨[L'],[]⟩) (T:=36) (e:=96) (U:=96) (es:=R'.map AB) (l:=0) (k:=36) (g:=γ) (n:=xs.length) (i:=F) (by kernel_rfl) (by simpa using p36) hal hne hFl (by simp);have v2:=fun s=>wO (P:=cx) (s:=s) (T:=36) (e:=96) (l:=0) (k:=36) (g:=γ) (n:=xs.length) (h:=F) (by kernel_rfl) hFl (by simp);have v3:=fun n fr x hx=>wP (P:=cx) (E:=BR cx ann kn n) (c:=c') (fr:=fr) (s:=⟨[L'],[]⟩) (T:=36) (e:=96) (x:=x) (es:=R'.map AB) (z:=[V.int .i64 0,V.int .i64 0,V.int .i64 0]) (l:=0) (q:=36) (γ:=γ) (i:=F) (n:=xs.length-F) (by kernel_rfl) hx (by simpa using p36) (by simp) (by simp;omega) (by simp[AB]) (by omega);have hFF:F+(xs.length-F)=xs.length:=by omega
   simp only[hFF]at v3;simp[AM4,AH,q1,hs,hw,h4,hs',p36,hFl,hFi,hFR,v1,v2,v3];have hz:(R'.map AB).take F++(bx (xs.length-F) [V.int .i64 0,V.int .i64 0,V.int .i64 0]++(R'.map AB).drop xs.length)=(R'.take F++(bx (xs.length-F) (⟨0,0,0⟩:AE)++R'.drop xs.length)).map AB:=by rw[bq,bq,List.map_take,List.map_drop,List.map_replicate];rfl
   rw[hz];simp only[AA.put];rw[B5,hs' _ (by simp),EI];done
def QD(b:AY)(k:Nat):List AE:=K3 (PO k) [] (F2 b)
theorem tJ(k:Nat):∀(l:List (List AE×List AW)) (a:List AE) (x:AE),x∈K3 (PO k) a l↔x∈a\/∃p∈l,p.1.getD k CO=x
 |[],a,x=>by simp[K3]
 |p::l,a,x=>by
  have ih:=tJ k l (PO k a p.1 p.2) x;have e:K3 (PO k) a (p::l)=K3 (PO k) (PO k a p.1 p.2) l:=rfl;rw[e,ih];unfold PO;rw[lR];simp only[bg,exists_eq_or_imp];constructor
  ·rintro ((h|h)|h)
   ·exact .inr (.inl h.symm)
   ·exact .inl h
   ·exact .inr (.inr h)
  ·rintro (h|h|h)
   ·exact .inl (.inr h)
   ·exact .inl (.inl h.symm)
   ·exact .inr h
theorem cB{b:AY}(hf:DH b=0){k:Nat}{x:AE}:x∈QD b k↔∃t,PQ b t=true/\t.getD k CO=x:=by
 unfold QD;rw[tJ];simp only[List.not_mem_nil,false_or];constructor
 ·rintro ⟨⟨t,L⟩,h,e⟩;exact⟨t,(KW hf).2 ⟨L,h⟩,e⟩
 ·rintro ⟨t,h,e⟩;obtain⟨L,hL⟩:=(KW hf).1 h;exact⟨(t,L),hL,e⟩
theorem Rd.get{C:Int}:∀{ls xs:List AE} {k:Nat},Rd C ls xs->k<ls.length->xs.getD k CO∈readingsP C (ls.getD k CO)
 |[],[],k,_,h=>by simp at h
 |[],_::_,_,h,_=>by cases h
 |_::_,[],_,h,_=>by cases h
 |l::ls,x::xs,0,h,_=>h.1
 |l::ls,x::xs,k+1,h,hk=>by have:=Rd.get h.2 (k:=k) (by simpa using hk);simpa using this
theorem R1{b:AY}(hf:DH b=0){k:Nat}(hk:k<b.lines.length){t:List AE}(h:PQ b t=true):t.getD k CO∈readingsP b.chairs (b.lines.getD k CO):=by obtain⟨h1,h4,_,_,_,_,_,_,hok,_⟩:=IP hf;simp only[PQ,Bool.and_eq_true]at h;exact((YJ h1 hok).1 h.1).get hk
def IM(b:AY)(k:Nat):List AE:=(readingsP b.chairs (b.lines.getD k CO)).filter (·∈QD b k)
def xG(b:AY)(k:Int):V:=if DW b (EL k 0 ((b.lines.length:Int)-1))=0 then .tup [sl ((IM b k.toNat).map AB),i 0] else .tup [.nil,i (DW b (EL k 0 ((b.lines.length:Int)-1)))]
theorem YM{b:AY}{k:Nat}(hk:k<b.lines.length)(h:DW b true=0):IM b k≠[]:=by
 obtain⟨h0,_,hp⟩:=QG h;have hf:DH b=0:=by rw[<-N5];exact h0
 have hT:=(YL b).1 hp;obtain⟨⟨t,L⟩,hm⟩:=List.exists_mem_of_ne_nil _ hT;have hfit:=(KW hf).2 ⟨L,hm⟩;intro he;have:t.getD k CO∈IM b k:=by unfold IM;rw[List.mem_filter];exact⟨R1 hf hk hfit,decide_eq_true ((cB hf).2 ⟨t,hfit,rfl⟩)⟩
 rw[he]at this;exact absurd this (by simp)
theorem o81(n:Nat)(b:AY)(l:AE)(h1:1<=b.chairs)(h4:b.chairs<=4):EG cx (AG cx ann kn (n+500)) 142 [.agg (AC b),.agg (AB l)]=some ⟨.vec 96 ((readingsP b.chairs l).map AB),none⟩:=by
 rw[bR Tryz.func142 AYC rfl (by simp[AC,AB,AM])];have hwl:=KX l.k 0 1 2 (by omega);have hk:=fun n=>AII n l.k 0 1 2 (by omega) (by omega) (by omega);obtain⟨c',γ',ih⟩:=ARQ (n+95) b l h1 h4 (FM l.k 0 1 2) (by omega) (FM l.k 0 1 2).length 0 [] 2 0 (n+495) (by omega) (by omega) (by simp);have hcl:((readingsP b.chairs l).map AB).all (fun e=>e.all (AK 9))=true:=by simp[AB]
 simp only[cj,ck,AC,AB]at ih|-;try simp at ih
 have hr:readingsP b.chairs l=rd1 b.chairs l (FM l.k 0 1 2):=rfl;rw[<-hr]at ih;generalize readingsP b.chairs l=R at ih hcl|-;simp[AMQ,AH,hk,ih,tC];exact AKG (R:=36) (T:=96) (by kernel_rfl) (by simp) _ _ _ _ _ _ rfl hcl
@[simp] theorem ALT:II cx 142=true:=by kernel_rfl
set_option maxHeartbeats 1000000 in
theorem k33(n:Nat)(b:AY)(k:Int)(hk64:b.lines.length<=500):A5 cx kn (AG cx ann kn (n+3200)) 115 [.agg (AC b),i k]=some (xG b k):=by
  rw[AQ rfl,AR Tryz.func115 A9L rfl (by simp[AC,AB,AM])];have q68:=fun n=>k68 n b (EL k 0 ((b.lines.length:Int)-1));have hw:IntKind.i64.wrap ((b.lines.length:Int)-1)=(b.lines.length:Int)-1:=AV (by omega) (by omega);have q69:=fun n=>k69 n k 0 ((b.lines.length:Int)-1);unfold xG;by_cases he:DW b (EL k 0 ((b.lines.length:Int)-1))=0
  · obtain⟨h0,h1,h2⟩:=QG he
    obtain⟨k,rfl⟩:∃j:Nat,k=j:=⟨k.toNat,by simp[EL]at h1;omega⟩
    have hk:k<b.lines.length:=by simp[EL]at h1;omega
    have hb:=VW h0
    rw[if_pos he]
    rw[he]at q68
    rw[h1]at he
    have hne:=YM hk he
    have q79:=fun n=>k79 n b
    have hL0:A4H b k [] [(A7,4,.loop (US b) [23,24] (GK 151) KE 39 .ready),(2,0,.box (AC b)),(3,1,.box [i k]),(7,3,.box [.mp 0 20 2]),(20,2,.map [])] :=
      ⟨by simp[A7],by simp[A7],by simp[A7],by simp[A7],by simp[A7],by simp[A7],by simp,fun t ht=>by
        have e0:¬0=t.up.length:=by omega
        obtain⟨up,loc⟩:=t;simp only at e0;have:=xF ⟨up,loc⟩ [];simp only[bp]at this;simp[AC,e0,this],⟨by simp,by simp⟩⟩
    obtain⟨L',c',r1,r2,r3⟩:=A5B hb (fun a L h=>h.st) (ARP hb hk) [] _ hL0 (US b)
    have hfd:QD b k=K3 (PO k) [] (F2 b):=rfl
    rw[<-hfd]at r1
    have hline:b.lines.getD k CO=b.lines[k]:=by simp[bw,hk]
    unfold IM at hne|-
    rw[hline]at hne
    rw[Int.toNat_natCast,hline]
    generalize QD b k=a at *
    obtain⟨p2,p3,p7,p20,p22,p36,pr,pst,pok⟩:=r1
    have hrok:∀x∈readingsP b.chairs b.lines[k],MH x:=fun x hx=>QC hb hk hx
    have hrl:(readingsP b.chairs b.lines[k]).length<=40:=by have:=EA b.chairs b.lines[k] hb.ch4;omega
    have q81:=fun n=>o81 n b b.lines[k] hb.ch1 hb.ch4
    have hgk:(b.lines.map AB)[k]? = some (AB b.lines[k]):=by simp[hk]
    generalize readingsP b.chairs b.lines[k]=X at *
    have hLv:ZX c' a X [(36,c',.vec 96 (X.map AB)),(2,0,.box (AC b)),(3,1,.box [i k]),(7,3,.box [.mp 0 20 2]),(20,2,.map (a.map MF))] :=
      ⟨by simp,by simp,by simp,fun t ht=>by
        have e0:¬0=t.up.length:=by omega
        obtain⟨up,loc⟩:=t;simp only at e0;rw[B5,EI];simp[AC,e0]⟩
    have r3:=r3 (n+993)
    have hw2:((b.lines.length:Int)-1)=((b.lines.length:Int)-1):=rfl
    rw[h1]at q69 q68
    simp only[AC,US,cj,ck]at q68 q79 r3 q81
    simp only[AB]at hgk q81
    simp[AM2,AH,AC,AB,AM,hw,q69,q68,q79,MD]
    rw[ON rfl]
    simp
    rw[show(Code.block 1 (GK 343))=KE from rfl]
    simp only[r3]
    rw[RU (fr0:=US b) (ps:=[23,24]) (asg:=(GK 151)) (body:=KE) (N:=39) (by simpa using pr) (by omega)]
    simp[AC,p2,p3,p7,p20,p22,p36,AA.put,A7,hk,hgk,AB,q81,show Nat.beq 5 1=false from rfl,C5]
    obtain⟨L2,es,c2,i2,e36,etk,ele,q80⟩:=k80 (n+2494) hLv pok hrok hrl (c'+1) 38 [(36,true,V.vec 0 36 c' X.length),(37,true,V.fn 143 [] [V.ptr 0 7 3 0]),
                          (35,true,V.agg [i b.lines[k].k,i b.lines[k].c,i b.lines[k].t]),
                          (34,true,V.ref [i b.lines[k].k,i b.lines[k].c,i b.lines[k].t]),(33,true,i k),
                          (32,true,V.list false (cq AB b.lines)),(31,true,V.ptr 0 2 0 3),
                          (30,true,
                            V.agg
                              [i b.chairs,i b.coin,i b.box,V.list false (cq AB b.lines),
                                V.list false (cq AM b.counts)]),
                          (2,true,V.ptr 0 2 0 0),(3,true,V.ptr 0 3 1 0),(7,true,V.ptr 0 7 3 0)] (by omega)
    simp only[AC,cj,ck]at q80
    rw[q80]
    generalize X.filter (·∈a)=F at *
    have hcl:(F.map AB).all (fun e=>e.all (AK 8))=true:=by simp[AB]
    cases F with
    |nil=>exact absurd rfl hne
    |cons y F=>
      simp[e36]
      rw[if_pos (by simpa using ele)]
      try simp at etk
      simp[etk,sl,AB]
      done
  · have e:decide (DW b (EL k 0 ((b.lines.length:Int)-1))=0)=false:=by simpa using he
    rw[if_neg he]
    simp only[AC]at q68|-
    generalize EL k 0 ((b.lines.length:Int)-1)=z at *
    generalize DW b z=A at q68 e|-
    simp[AM2,AH,AB,AM,hw,q69,q68,e]
    done
end Go.Proofs.Tryz.Op
