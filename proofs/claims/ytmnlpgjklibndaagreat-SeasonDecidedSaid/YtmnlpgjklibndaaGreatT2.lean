/- The map of lines that 'Was' keeps: a look, a store. No condition. -/
import Derived.Test.YtmnlpgjklibndaaGreatT1
open Go.Proofs.Tryz renaming prog->cx,underlying96->cz
open List renaming drop_eq_getElem_cons->bj,map_append->bq,getD_eq_getElem?_getD->bw,replicate->bx,append_inj_right'->bz,getElem_mem->bc,map_cons->bf,mem_cons->bg,append_inj_left'->bh,length_filter_le->bn,map_nil->bp,take_succ_cons->bt,map->cq
open Nat renaming le_refl->br,add_assoc->cj,reduceAdd->ck
set_option maxRecDepth 100000
set_option linter.unusedSimpArgs false
open Go Go.Pg Go.Proofs
namespace Go.Proofs.Tryz.Op
instance decLine:DecidableEq AF:=fun a b=>
 if h:a.k=b.k/\a.c=b.c/\a.t=b.t then isTrue (by obtain⟨a1,a2,a3⟩:=a;obtain⟨b1,b2,b3⟩:=b;simp only at h;obtain⟨rfl,rfl,rfl⟩:=h;rfl)
 else isFalse (by intro e;subst e;exact h ⟨rfl,rfl,rfl⟩)
def NH(l:AF):V×V:=(.agg (AB l),.bool true)
def jN(x:AF)(L:List AF):List AF:=if x∈L then L else L++[x]
structure okF(L:List AF):Prop where
 ok:∀x∈L,NJ x
 nd:L.Nodup
theorem pL{x y:AF}{L:List AF}:y∈jN x L↔y=x\/y∈L:=by
 unfold jN;split
 ·rename_i h;exact⟨.inr,fun hh=>hh.elim (fun e=>e▸h) id⟩
 ·simp only[List.mem_append,List.mem_singleton,or_comm]
theorem AMF{x:AF}{L:List AF}(h:okF L)(hx:NJ x):okF (jN x L) where
 ok:=fun y hy=>(pL.1 hy).elim (fun e=>e▸hx) (h.ok y)
 nd:=by
  unfold jN;split
  ·exact h.nd
  ·rename_i hn;rw[List.nodup_append];exact⟨h.nd,by simp,fun a ha b hb e=>hn (by simp at hb;rw[<-hb,<-e];exact ha)⟩
theorem BH2(d:Nat){a b c:Int}(ha:(Lit.int .i64 a).wf=true)(hb:(Lit.int .i64 b).wf=true)(hc:(Lit.int .i64 c).wf=true) :
  cx.keyLits (d+2) 96 [.int .i64 a,.int .i64 b,.int .i64 c]=some [.int .i64 a,.int .i64 b,.int .i64 c]:=by
 have c3:cx.cellsOf 3=1:=R4
 unfold Program.keyLits
 rw[cz]
 simp only
 rw[if_pos (by rw[lG];exact⟨rfl,by decide +kernel⟩)]
 simp[List.mapM_cons,c3,kl3 d ha,kl3 d hb,kl3 d hc]
theorem AMG:cx.keyType 96=true:=by kernel_rfl
theorem A9N:cx.types.size+1=(cx.types.size-1)+2:=by have:2<=cx.types.size:=of_decide_eq_true (by kernel_rfl);omega
theorem AH2(x:AF)(h:NJ x):P6 cx 96 (.agg (AB x))=some (AB x):=by
 obtain⟨k,c,t⟩:=x;obtain⟨hk,hc,ht⟩:=h;have q:=BH2 (cx.types.size-1) (aU hk) (aU hc) (aU ht);rw[<-A9N]at q;have hf:(Value.agg #[.int .i64 k,.int .i64 c,.int .i64 t]).formed cx 96=true:=by unfold Value.formed;rw[cz];simp[lG]
 have hko:(keyOf cx 96 (.agg #[.int .i64 k,.int .i64 c,.int .i64 t])).isSome=true:=by unfold keyOf;rw[cz];simp only;rw[if_pos (by rw[AMG,hf];rfl),Option.isSome_map];simp only at q;exact Option.isSome_iff_exists.2 ⟨_,q⟩
 have hp:DP (AB ⟨k,c,t⟩)=some [.int .i64 k,.int .i64 c,.int .i64 t]:=rfl;unfold P6;simp only[hp];rw[if_pos hko]
theorem AH3:lP cx 96=true:=by kernel_rfl
theorem xS:rX cx 195=some (96,4):=by kernel_rfl
theorem A9O(x y:AF):wH (AB x) (AB y)=some (decide (x=y)):=by have:=bF [x.k,x.c,x.t] [y.k,y.c,y.t] rfl;show wH (i x.k::i x.c::[i x.t]) (i y.k::i y.c::[i y.t])=_;simp only[bf,bp]at this;rw[this];congr 1;obtain⟨k,c,t⟩:=x;obtain⟨k',c',t'⟩:=y;rw[Bool.eq_iff_iff];simp
def cQ(x:AF):List AF->Nat->List Nat
 |[],_=>[]
 |p::L,j=>if p=x then j::cQ x L (j+1) else cQ x L (j+1)
theorem jO(x:AF):∀(L:List AF) (j:Nat),(∀p∈L,NJ p)->H5 cx 96 (AB x) (L.map NH) j=some (cQ x L j)
 |[],_,_=>rfl
 |p::L,j,h=>by have ih:=jO x L (j+1) (fun q hq=>h q (by simp[hq]));simp only[bf,NH,H5,AH2 p (h p (by simp)),A9O p x];have ih':H5 cx 96 (AB x) (cq NH L) (j+1)=some (cQ x L (j+1)):=ih;rw[ih'];simp[cQ]
theorem PR(x:AF):∀(L:List AF) (j:Nat),x∉L->cQ x L j=[]
 |[],j,_=>rfl
 |p::L,j,h=>by simp only[bg,not_or]at h;have hp:¬p=x:=fun hh=>h.1 hh.symm;simp[cQ,hp,PR x L (j+1) h.2]
theorem U1(x:AF):∀(L:List AF) (j:Nat),x∈L->L.Nodup->∃k,cQ x L j=[j+k]/\L[k]? = some x
 |p::L,j,h,hn=>by
  simp only[List.nodup_cons]at hn;by_cases hp:p=x
  ·exact⟨0,by simp[cQ,hp,PR x L (j+1) (by rw[<-hp];exact hn.1)],by simp[hp]⟩
  ·obtain⟨k,i1,i2⟩:=U1 x L (j+1) ((bg.1 h).resolve_left fun hh=>hp hh.symm) hn.2;exact⟨k+1,by simp[cQ,hp,i1];omega,by simpa using i2⟩
theorem ABG{s:St}{l q g:Nat}{L:List AF}{x:AF}(hs:s.get l q=some (g,.map (L.map NH)))(hL:okF L)(hx:NJ x) :
  CO cx s 195 (.mp l q g) (.agg (AB x)) false=some (.bool (decide (x∈L))):=by
 unfold CO
 simp only[xS,hs,AH3,AH2 x hx,jO x L 0 hL.ok,and_self,if_true]
 by_cases h:x∈L
 ·obtain⟨k,i1,i2⟩:=U1 x L 0 h hL.nd;simp[i1,i2,NH,h]
 ·simp[PR x L 0 h,yE,h]
theorem AH4{α:Type}{l:List α}{k:Nat}{x:α}(h:l[k]? = some x):l.set k x=l:=by
 apply List.ext_getElem?;intro j;rw[List.getElem?_set];split
 ·rename_i e;subst e;split
  ·exact h.symm
  ·rename_i hn;rw[List.getElem?_eq_none (by omega)]at h;cases h
 ·rfl
theorem AH5{s:St}{l q g:Nat}{L:List AF}{x:AF}(hs:s.get l q=some (g,.map (L.map NH)))(hL:okF L)(hx:NJ x) :
  I5 cx s 195 (.mp l q g) (.agg (AB x)) (.bool true)=some (l,q,g,(jN x L).map NH):=by
 unfold I5
 simp only[xS,hs,AH3,AH2 x hx,jO x L 0 hL.ok,and_self,if_true]
 by_cases h:x∈L
 ·obtain⟨k,i1,i2⟩:=U1 x L 0 h hL.nd;have e:(L.map NH).set k (V.agg (AB x),V.bool true)=L.map NH:=AH4 (by simp[i2,NH]);simp[i1,jN,h,e]
 ·simp[PR x L 0 h,jN,h,NH]
@[simp] theorem ABH(s:St)(L:List AF):BU s (.map (L.map NH))=.map (L.map NH):=by
 have:BW s (.map (L.map NH))=some (.map (L.map NH)):=by unfold BW;simp only;rw[IP];intro x hx;simp only[List.mem_map]at hx;obtain⟨p,_,rfl⟩:=hx;rfl
 unfold BU;rw[this]
noncomputable def WF(b:A5):Fr:=[(22,true,.fn 169 [] [.ref (AE b)]),(21,true,.agg (AE b)),(2,true,.ptr 0 2 0 0),(3,true,.ptr 0 3 1 0),(7,true,.ptr 0 7 3 0)]
noncomputable def LF:Code:=.block 1 (HF 343)
@[simp] theorem u33(n:Nat)(st:XS):AH cx ann kn n 39 LF st=AH cx ann kn n 39 (.block 1 (HF 343)) st:=rfl
structure A9P(b:A5)(k:Nat)(a:List AF)(L:AA):Prop where
 p2:L.get 2=some (0,.box (AE b))
 p3:L.get 3=some (1,.box [i k])
 p7:L.get 7=some (3,.box [.mp 0 20 2])
 p20:L.get 20=some (2,.map (a.map NH))
 p22:L.get 22=none
 p36:L.get 36=none
 pr:L.get A9=some (4,.loop (WF b) [23,24] (HF 151) LF 39 .ready)
 st:∀t:St,1<=t.up.length->AQ t L=L
 ok:okF a
def QS(k:Nat)(a:List AF)(ls:List AF)(_:List AY):List AF:=jN (ls.getD k CX) a
theorem RJ{b:A5}(hb:RN b){j:Nat}(hj:j<b.lines.length){x:AF}(hx:x∈readingsP b.chairs b.lines[j]):NJ x:=by have h4:=hb.ch4;obtain⟨h1,h2,h3⟩:=J0 hb.ch4 (List.all_eq_true.1 hb.lok _ (bc hj)) hx;exact⟨⟨by omega,by omega⟩,⟨by omega,by omega⟩,⟨by omega,by omega⟩⟩
theorem AWH{b:A5}(hb:RN b){k:Nat}(hk:k<b.lines.length):JI b (A9P b k) (QS k) 4 600:=by
 intro a L L1 rest loc c fr ls ss g9 H4 hL hc hp p9 p14 hst;obtain⟨p2,p3,p7,p20,p22,p36,pr,pst,pok⟩:=hL;have hll:=hp.ll;have hkl:k<ls.length:=by omega
 have hx:=hp.rd k hkl hk;have hok:=RJ hb hk hx;have hgd:ls.getD k CX=ls[k]:=by simp[bw,hkl]
 have hgk:(ls.map AB)[k]? = some (AB ls[k]):=by simp[hkl]
 have hu:=fun s h=>AH5 (s:=s) (l:=0) (q:=20) (g:=2) (L:=a) (x:=ls[k]) h pok hok;have hki:(k:Int)<(b.lines.length:Int):=by omega
 have hst':=fun t h=>hst t h;simp only[bf,bq,bp,List.cons.injEq]at hst';have hun:∀A:AA,CW (A::L1::(rest++[loc]))=some (A::L1::rest,loc):=fun A=>by rw[<-List.cons_append,<-List.cons_append,unsnoc_snoc]
 have hsr:∀t:St,(L1::(rest++[loc])).length+1<=t.up.length->(rest.map (AQ t)=rest/\AQ t loc=loc):=fun t h=>by have:=(hst' t h).2;exact⟨bh this rfl,by simpa using bz this rfl⟩
 have h1s:∀t:St,(L1::(rest++[loc])).length+1<=t.up.length->AQ t L1=L1:=fun t h=>(hst' t h).1;have e2:2<c:=by omega
 have hok':=AMF (x:=ls[k]) pok hok;unfold QS;rw[hgd];generalize hA:jN ls[k] a=a' at hu hok'|-;refine⟨(A9,4,.loop (WF b) [23,24] (HF 151) LF 39 .ready)::(20,2,.map (a'.map NH))::(A9,4,.loop (WF b) [23,24] (HF 151) LF 39 .busy)::L,c,?_,by omega,fun n=>?_⟩
 ·exact⟨by simpa [A9]using p2,by simpa [A9]using p3,by simpa [A9]using p7,by simp[A9],by simpa [A9]using p22,by simpa [A9]using p36,by simp,fun t ht=>by simp[pst t ht],hok'⟩
 ·rw[NF (by simpa using pr) rfl (by omega)];simp only[HM,Fr.put,ARJ,WF];simp;rw[EO (fr0:=WF b) (ps:=[23,24]) (asg:=(HF 151)) (body':=LF) (N:=39) (by simpa using pr) (by omega)];generalize hB:A6.loop (WF b) [23,24] (HF 151) LF 39 LS.busy=B;simp only[AB]at hgk hu;simp[p2,p3,p7,p20,p9,hgk,hu,hki,hkl,hll,AA.put,A9,e2,aG];subst hB;rw[EP (fr0:=WF b) (ps:=[23,24]) (asg:=(HF 151)) (body:=LF) (N:=39) (by simp) (hun _) (by simp) (by omega)];simp[pst,h1s,hsr,AA.put,WF];done
end Go.Proofs.Tryz.Op
namespace Go.Pg
variable {P:Program}{E:XE}{c:Nat}{fr:Fr}{s:St}{r:Operand->Option V}
end Go.Pg
namespace Go.Proofs.Tryz.Op
structure cR(γ:Nat)(a R:List AF)(L:AA):Prop where
 p7:L.get 7=some (3,.box [.mp 0 20 2])
 p20:L.get 20=some (2,.map (a.map NH))
 p36:L.get 36=some (γ,.vec 96 (R.map AB))
 st:∀t:St,1<=t.up.length->AQ t L=L
theorem aO{rs:List AA}{loc:AA}{t:St}(h:(rs++[loc]).map (AQ t)=rs++[loc]):rs.map (AQ t)=rs/\AQ t loc=loc:=by simp only[bq,bf,bp]at h;exact⟨bh h rfl,by simpa using bz h rfl⟩
theorem k82(n:Nat){γ:Nat}{a R:List AF}{L:AA}(hL:cR γ a R L)(ha:okF a)(rs:List AA)(loc:AA)(hst:∀t:St,rs.length+2<=t.up.length->(rs++[loc]).map (AQ t)=rs++[loc])(x:AF)(hx:NJ x)(c dd:Nat)(fr:Fr) :
  K3 (BX cx ann kn (n+100)) (some dd) ⟨c,fr,⟨L::rs,loc⟩⟩ 143 [.agg (AB x),.ptr 0 7 3 0]=some ⟨c+1,(dd,true,.bool (!decide (x∈a)))::fr,⟨L::rs,loc⟩⟩:=by
 have hu:=fun s h=>ABG (s:=s) (l:=0) (q:=20) (g:=2) (L:=a) (x:=x) h ha hx
 have p7:=hL.p7
 have p20:=hL.p20
 rw[BP Tryz.func143 b143 rfl (by simp)]
 have h1:=fun t h=>hst t h
 have h2:=hL.st
 simp only[AB]at hu|-
 simp[A3Y,AJ,p7,p20,hu]
 have q:=fun t h=>aO (hst t h)
 exact⟨⟨h2 _ (by simp),(q _ (by simp)).1⟩,(q _ (by simp)).2⟩
def O5(a:List AF):Nat->List AF->Option Nat
 |_,[]=>none
 |k,x::r=>if x∈a then O5 a (k+1) r else some k
theorem AQC{γ:Nat}{a xs:List AF}{L:AA}(hL:cR γ a xs L)(ha:okF a)(hxs:∀x∈xs,NJ x)(rs:List AA)(hst:∀t:St,rs.length+1<=t.up.length->rs.map (AQ t)=rs)(hl:xs.length<=40) :
  ∀(d k c:Nat),k+d=xs.length->∃c',c<=c'/\∀n m,d<m ->
  BN (AH cx ann kn (n+200) 19) PE (some ([0,1,3,7,8],[3])) m ⟨c,[(0,true,.vec 0 36 γ xs.length),(1,true,.fn 143 [] [.ptr 0 7 3 0]),(7,true,i xs.length),(8,true,i k)],⟨L::rs,[]⟩⟩ =
   match O5 a k (xs.drop k)with
   |some j=>some (.ret,⟨c',[(4,true,i j),(17,true,i j),(5,true,i j)],⟨L::rs,[]⟩⟩)
   |none=>some (.exit 0,⟨c',[(9,true,.bool false),(0,true,.vec 0 36 γ xs.length),(1,true,.fn 143 [] [.ptr 0 7 3 0]),(7,true,i xs.length),(8,true,i xs.length)],⟨L::rs,[]⟩⟩)
 |0,k,c,hd=>by
  have hk:k=xs.length:=by omega
  subst hk;refine⟨c,br _,fun n m hm=>?_⟩;obtain⟨m,rfl⟩:=qNz m (by omega);rw[List.drop_length];simp[AD,O5];done
 |d+1,k,c,hd=>by
  have hk:k<xs.length:=by omega
  have hw:IntKind.i64.wrap ((k:Int)+1)=(k:Int)+1:=AU (by omega) (by omega);have p36:=hL.p36;have hgk:(xs.map AB)[k]? = some (AB xs[k]):=by simp[hk]
  obtain⟨c',i0,ih⟩:=AQC hL ha hxs rs hst hl d (k+1) (c+1) (by omega);have q:=fun n c dd fr=>k82 n hL ha rs [] (fun t h=>by rw[bq,hst t (by omega)];rfl) xs[k] (hxs _ (bc hk)) c dd fr;rw[bj hk];simp only[O5];simp only[AB]at hgk q;by_cases he:xs[k]∈a
  ·rw[if_pos he];simp only[he,decide_true,Bool.not_true]at q;refine⟨c',by omega,fun n m hm=>?_⟩;obtain⟨m,rfl⟩:=qNz m (by omega);have ih:=ih n m (by omega);rw[AD];try simp at ih
   simp[hk,hw,p36,hgk,AB,q,ih];done
  ·rw[if_neg he];simp only[he,decide_false,Bool.not_false]at q;refine⟨c+1,by omega,fun n m hm=>?_⟩;obtain⟨m,rfl⟩:=qNz m (by omega);rw[AD];simp[hk,hw,p36,hgk,AB,q];done
def cS:Option Nat->Int
 |some j=>j
 |none=>-1
theorem A9Q(n:Nat){γ:Nat}{a xs:List AF}{L:AA}(hL:cR γ a xs L)(ha:okF a)(hxs:∀x∈xs,NJ x)(hl:xs.length<=40)(c dd:Nat)(fr:Fr) :
  ∃c',c<=c'/\K3 (BX cx ann kn (n+300)) (some dd) ⟨c,fr,⟨[L],[]⟩⟩ 172 [.vec 0 36 γ xs.length,.fn 143 [] [.ptr 0 7 3 0]]=some ⟨c',(dd,true,i (cS (O5 a 0 xs)))::fr,⟨[L],[]⟩⟩:=by
 obtain⟨c',i0,h⟩:=AQC hL ha hxs [[]] (fun t _=>by simp) hl xs.length 0 c (by omega)
 have h:=h (n+95) (n+295) (by omega)
 have hs:=hL.st
 refine⟨c',i0,?_⟩
 rw[BP Tryz.func172 b172 rfl (by simp)]
 rw[List.drop_zero]at h
 generalize O5 a 0 xs=q at h
 cases q with
 |some j=>simp at h;simp[ADK,AJ,h,hs,cS]
 |none=>simp at h;simp[ADK,AJ,h,hs,cS]
theorem cR.set{γ:Nat}{a R:List AF}{L:AA}(h:cR γ a R L)(j:Nat)(x:AF):cR γ a (R.set j x) ((36,γ,.vec 96 ((R.map AB).set j (AB x)))::L) where
 p7:=by simpa using h.p7
 p20:=by simpa using h.p20
 p36:=by simp[List.map_set]
 st:=by intro t ht;rw[BJ,h.st t ht,<-qE,EZ]
theorem l80{γ:Nat}{a xs:List AF}(ha:okF a)(hxs:∀x∈xs,NJ x)(hl:xs.length<=40):∀(d j:Nat) (R:List AF) (L:AA) (c:Nat),j+d=xs.length->R.length=xs.length->R.take ((xs.take j).filter (·∈a)).length=(xs.take j).filter (·∈a)->R.drop j=xs.drop j->cR γ a R L->γ<c ->
  ∃L' R' c',c<=c'/\cR γ a R' L'/\R'.length=xs.length/\R'.take (xs.filter (·∈a)).length=xs.filter (·∈a)/\∀n m,d<m ->
  BN (AH cx ann kn (n+300) 42) W4 (some ([0,1,5,6],[])) m ⟨c,[(0,true,.vec 0 36 γ xs.length),(1,true,.fn 143 [] [.ptr 0 7 3 0]),(5,true,i ((xs.take j).filter (·∈a)).length),(6,true,i j)],⟨[L],[]⟩⟩ =
   some (.exit 0,⟨c',[(19,true,.bool false),(18,true,i xs.length),(17,true,.vec 0 36 γ xs.length),(16,true,i xs.length),(0,true,.vec 0 36 γ xs.length),(1,true,.fn 143 [] [.ptr 0 7 3 0]),(5,true,i (xs.filter (·∈a)).length),(6,true,i xs.length)],⟨[L'],[]⟩⟩)
 |0,j,R,L,c,hd,hR,ht,hdr,hL,hc=>by
  have hj:j=xs.length:=by omega
  subst hj;rw[List.take_length]at ht|-;refine⟨L,R,c,br _,hL,hR,ht,fun n m hm=>?_⟩;obtain⟨m,rfl⟩:=qNz m (by omega);generalize (xs.filter (·∈a)).length=F;simp[AD];done
 |d+1,j,R,L,c,hd,hR,ht,hdr,hL,hc=>by
  have hj:j<xs.length:=by omega
  have hjR:j<R.length:=by omega
  have hw:IntKind.i64.wrap ((j:Int)+1)=(j:Int)+1:=AU (by omega) (by omega);have hRj:R[j]=xs[j]:=by rw[bj hj,bj hjR]at hdr;exact(List.cons.inj hdr).1
  have hdr':R.drop (j+1)=xs.drop (j+1):=by rw[bj hj,bj hjR]at hdr;exact(List.cons.inj hdr).2
  have p36:=hL.p36;have hgk:(R.map AB)[j]? = some (AB xs[j]):=by simp[hjR,hRj]
  have hxj:=hxs _ (bc hj);have hf:(xs.take (j+1)).filter (·∈a)=(xs.take j).filter (·∈a)++(if xs[j]∈a then[xs[j]] else[]):=by rw[List.take_succ_eq_append_getElem hj,List.filter_append];congr 1;by_cases he:xs[j]∈a<;>simp[he]
  have hfl:((xs.take j).filter (·∈a)).length<=j:=by
   have:=bn (fun x=>decide (x∈a)) (xs.take j);try simp at this
   omega
  have q:=fun n loc (hloc:∀t:St,2<=t.up.length->AQ t loc=loc) c dd fr=>k82 n hL ha [] loc (fun t h=>by simp[hloc t (by simpa using h)]) xs[j] hxj c dd fr;by_cases he:xs[j]∈a
  ·rw[if_pos he]at hf;simp only[he,decide_true,Bool.not_true]at q;have hlen:((xs.take (j+1)).filter (·∈a)).length=((xs.take j).filter (·∈a)).length+1:=by rw[hf];simp
   have hL':=hL.set ((xs.take j).filter (·∈a)).length xs[j];obtain⟨L',R',c',i0,i1,i2,i3,ih⟩:=l80 (γ:=γ) ha hxs hl d (j+1) (R.set ((xs.take j).filter (·∈a)).length xs[j]) _ (c+1+1) (by omega) (by simp[hR]) (by rw[hlen,hf];exact MG ht (by omega)) (by rw[List.drop_set_of_lt (by omega)];exact hdr') hL' (by omega);refine⟨L',R',c',by omega,i1,i2,i3,fun n m hm=>?_⟩;obtain⟨m,rfl⟩:=qNz m (by omega);have ih:=ih n m (by omega);rw[hlen]at ih;rw[AD];generalize hF:((xs.take j).filter (·∈a)).length=F at *;have hw2:IntKind.i64.wrap ((F:Int)+1)=(F:Int)+1:=AU (by omega) (by omega);have hFR:F<R.length:=by omega
   have hc2:γ<c+1+1:=by omega
   have hFx:F<xs.length:=by omega
   simp only[AB]at hgk q;simp[AB]at ih;simp[hj,hw,hw2,p36,hgk,AB,hRj,q,hFR,hFx,hR,hc,hc2,AA.put,ih];done
  ·rw[if_neg he,List.append_nil]at hf;simp only[he,decide_false,Bool.not_false]at q;obtain⟨L',R',c',i0,i1,i2,i3,ih⟩:=l80 (γ:=γ) ha hxs hl d (j+1) R L (c+1+1) (by omega) hR (by rw[hf];exact ht) hdr' hL (by omega);refine⟨L',R',c',by omega,i1,i2,i3,fun n m hm=>?_⟩;obtain⟨m,rfl⟩:=qNz m (by omega);have ih:=ih n m (by omega);rw[hf]at ih;rw[AD];generalize hF:((xs.take j).filter (·∈a)).length=F at *;simp only[AB]at hgk q;try simp at ih
   simp[hj,hw,p36,hgk,AB,hR,hRj,q,ih];done
theorem pM{a:List AF}:∀{l:List AF} {k:Nat},O5 a k l=none->∀x∈l,x∈a
 |[],_,_,x,hx=>by simp at hx
 |y::r,k,h,x,hx=>by
  unfold O5 at h;split at h
  ·rename_i hy;rcases bg.1 hx with rfl|hx
   ·exact hy
   ·exact pM h x hx
  ·cases h
theorem pN{a:List AF}:∀{l:List AF} {k j:Nat},O5 a k l=some j->∃m,j=k+m/\m<l.length/\(l.take (m+1)).filter (·∈a)=l.take m
 |[],_,_,h=>by cases h
 |y::r,k,j,h=>by
  unfold O5 at h;split at h
  ·rename_i hy;obtain⟨m,e,hm,hf⟩:=pN h;exact⟨m+1,by omega,by simpa using hm,by rw[bt,List.filter_cons_of_pos (p:=fun x=>decide (x∈a)) (decide_eq_true hy),hf,bt]⟩
  ·rename_i hy;cases h;exact⟨0,rfl,by simp,by simp[hy]⟩
theorem k80(n:Nat){γ:Nat}{a xs:List AF}{L:AA}(hL:cR γ a xs L)(ha:okF a)(hxs:∀x∈xs,NJ x)(hl:xs.length<=40)(c dd:Nat)(fr:Fr)(hc:γ<c) :
  ∃L' es c',c<=c'/\L'.get 36=some (γ,.vec 96 es)/\es.take (xs.filter (·∈a)).length=(xs.filter (·∈a)).map AB/\(xs.filter (·∈a)).length<=es.length /\
  K3 (BX cx ann kn (n+700)) (some dd) ⟨c,fr,⟨[],L⟩⟩ 141 [.vec 0 36 γ xs.length,.fn 143 [] [.ptr 0 7 3 0]]=some ⟨c',(dd,true,.vec 0 36 γ (xs.filter (·∈a)).length)::fr,⟨[],L'⟩⟩:=by
 obtain⟨c1,i1,q1⟩:∃c1,c<=c1/\_:=A9Q (n+397) hL ha hxs hl c 10 [(9,true,.fn 143 [] [.ptr 0 7 3 0]),(8,true,.vec 0 36 γ xs.length),(0,true,.vec 0 36 γ xs.length),(1,true,.fn 143 [] [.ptr 0 7 3 0])]
 have hs:=hL.st
 cases hq:O5 a 0 xs with
 |none=>
  rw[hq]at q1
  have hF:xs.filter (·∈a)=xs:=List.filter_eq_self.2 fun x hx=>by simpa using pM hq x hx
  rw[hF]
  refine⟨L,xs.map AB,c1,i1,hL.p36,List.take_of_length_le (by rw[List.length_map];exact br _),by rw[List.length_map];exact br _,?_⟩
  rw[BP Tryz.func141 b141 rfl (by simp)]
  simp only[cS]at q1
  simp[ARK,AJ,q1,hs]
  done
 |some j=>
  rw[hq]at q1
  obtain⟨m,e,hm,hf⟩:=pN hq
  have e:j=m:=by omega
  subst e
  have hfl:((xs.take (j+1)).filter (·∈a)).length=j:=by rw[hf];simp;omega
  obtain⟨L',R',c',i2,h1,h2,h3,h4⟩:=l80 (γ:=γ) ha hxs hl (xs.length-(j+1)) (j+1) xs L c1 (by omega) rfl (by rw[hfl,hf]) rfl hL (by omega)
  have h4:=h4 (n+393) (n+693) (by omega)
  rw[hfl]at h4
  have hFl:(xs.filter (·∈a)).length<=xs.length:=bn _ _
  have hs':=h1.st
  have p36:=h1.p36
  have hw:IntKind.i64.wrap ((j:Int)+1)=(j:Int)+1:=AU (by omega) (by omega)
  have hes:(R'.map AB).take (xs.filter (·∈a)).length=(xs.filter (·∈a)).map AB:=by rw[<-List.map_take,h3]
  generalize hFF:(xs.filter (·∈a)).length=F at *
  have hFR:F<=(R'.map AB).length:=by simp;omega
  refine⟨(36,γ,.vec 96 ((R'.map AB).take F++bx (xs.length-F) [V.int .i64 0,V.int .i64 0,V.int .i64 0]++(R'.map AB).drop xs.length))::L',((R'.map AB).take F++bx (xs.length-F) [V.int .i64 0,V.int .i64 0,V.int .i64 0]++(R'.map AB).drop xs.length),c',by omega,by simp,?_,?_,?_⟩
  ·rw[List.append_assoc,List.take_append_of_le_length (by simp;omega),List.take_take,Nat.min_self,hes]
  ·simp;omega
  ·rw[BP Tryz.func141 b141 rfl (by simp)];simp only[cS]at q1;try simp at h4
   have hFi:(F:Int)<=(xs.length:Int):=by omega
   have hne:R'.map AB≠[]:=by
    intro h0;have:=congrArg List.length h0;try simp at this
    rw[this]at h2;try simp at h2
    omega
   have hal:(R'.map AB).all (fun x=>x.length==cx.cellsOf 96)=true:=by simp[AB]
   have v1:=eV (P:=cx) (s:=⟨[L'],[]⟩) (T:=36) (e:=96) (U:=96) (es:=R'.map AB) (l:=0) (k:=36) (g:=γ) (n:=xs.length) (i:=F) (by kernel_rfl) (by simpa using p36) hal hne hFl (by simp);have v2:=fun s=>eW (P:=cx) (s:=s) (T:=36) (e:=96) (l:=0) (k:=36) (g:=γ) (n:=xs.length) (h:=F) (by kernel_rfl) hFl (by simp);have v3:=fun n fr x hx=>eX (P:=cx) (E:=BX cx ann kn n) (c:=c') (fr:=fr) (s:=⟨[L'],[]⟩) (T:=36) (e:=96) (x:=x) (es:=R'.map AB) (z:=[V.int .i64 0,V.int .i64 0,V.int .i64 0]) (l:=0) (q:=36) (γ:=γ) (i:=F) (n:=xs.length-F) (by kernel_rfl) hx (by simpa using p36) (by simp) (by simp;omega) (by simp[AB]) (by omega);have hFF:F+(xs.length-F)=xs.length:=by omega
   simp only[hFF]at v3;simp[ARK,AJ,q1,hs,hw,h4,hs',p36,hFl,hFi,hFR,v1,v2,v3];have hz:(R'.map AB).take F++(bx (xs.length-F) [V.int .i64 0,V.int .i64 0,V.int .i64 0]++(R'.map AB).drop xs.length)=(R'.take F++(bx (xs.length-F) (⟨0,0,0⟩:AF)++R'.drop xs.length)).map AB:=by rw[bq,bq,List.map_take,List.map_drop,List.map_replicate];rfl
   rw[hz];simp only[AA.put];rw[BJ,hs' _ (by simp),EZ];done
def RK(b:A5)(k:Nat):List AF:=MF (QS k) [] (GO b)
theorem xT(k:Nat):∀(l:List (List AF×List AY)) (a:List AF) (x:AF),x∈MF (QS k) a l↔x∈a\/∃p∈l,p.1.getD k CX=x
 |[],a,x=>by simp[MF]
 |p::l,a,x=>by
  have ih:=xT k l (QS k a p.1 p.2) x;have e:MF (QS k) a (p::l)=MF (QS k) (QS k a p.1 p.2) l:=rfl;rw[e,ih];unfold QS;rw[pL];simp only[bg,exists_eq_or_imp];constructor
  ·rintro ((h|h)|h)
   ·exact .inr (.inl h.symm)
   ·exact .inl h
   ·exact .inr (.inr h)
  ·rintro (h|h|h)
   ·exact .inl (.inr h)
   ·exact .inl (.inl h.symm)
   ·exact .inr h
theorem fG{b:A5}(hf:DC b=0){k:Nat}{x:AF}:x∈RK b k↔∃t,QU b t=true/\t.getD k CX=x:=by
 unfold RK;rw[xT];simp only[List.not_mem_nil,false_or];constructor
 ·rintro ⟨⟨t,L⟩,h,e⟩;exact⟨t,(O4 hf).2 ⟨L,h⟩,e⟩
 ·rintro ⟨t,h,e⟩;obtain⟨L,hL⟩:=(O4 hf).1 h;exact⟨(t,L),hL,e⟩
theorem Rd.get{C:Int}:∀{ls xs:List AF} {k:Nat},Rd C ls xs->k<ls.length->xs.getD k CX∈readingsP C (ls.getD k CX)
 |[],[],k,_,h=>by simp at h
 |[],_::_,_,h,_=>by cases h
 |_::_,[],_,h,_=>by cases h
 |l::ls,x::xs,0,h,_=>h.1
 |l::ls,x::xs,k+1,h,hk=>by have:=Rd.get h.2 (k:=k) (by simpa using hk);simpa using this
theorem TH{b:A5}(hf:DC b=0){k:Nat}(hk:k<b.lines.length){t:List AF}(h:QU b t=true):t.getD k CX∈readingsP b.chairs (b.lines.getD k CX):=by obtain⟨h1,h4,_,_,_,_,_,_,hok,_⟩:=F8 hf;simp only[QU,Bool.and_eq_true]at h;exact((aM h1 hok).1 h.1).get hk
def JO(b:A5)(k:Nat):List AF:=(readingsP b.chairs (b.lines.getD k CX)).filter (·∈RK b k)
def ABI(b:A5)(k:Int):V:=if EG b (D7 k 0 ((b.lines.length:Int)-1))=0 then .tup [sl ((JO b k.toNat).map AB),i 0] else .tup [.nil,i (EG b (D7 k 0 ((b.lines.length:Int)-1)))]
theorem aP{b:A5}{k:Nat}(hk:k<b.lines.length)(h:EG b true=0):JO b k≠[]:=by
 obtain⟨h0,_,hp⟩:=U7 h;have hf:DC b=0:=by rw[<-O8];exact h0
 have hT:=(pK b).1 hp;obtain⟨⟨t,L⟩,hm⟩:=List.exists_mem_of_ne_nil _ hT;have hfit:=(O4 hf).2 ⟨L,hm⟩;intro he;have:t.getD k CX∈JO b k:=by unfold JO;rw[List.mem_filter];exact⟨TH hf hk hfit,decide_eq_true ((fG hf).2 ⟨t,hfit,rfl⟩)⟩
 rw[he]at this;exact absurd this (by simp)
theorem o81(n:Nat)(b:A5)(l:AF)(h1:1<=b.chairs)(h4:b.chairs<=4):EM cx (AH cx ann kn (n+500)) 142 [.agg (AE b),.agg (AB l)]=some ⟨.vec 96 ((readingsP b.chairs l).map AB),none⟩:=by
 rw[UR Tryz.func142 A24 rfl (by simp[AE,AB,AM])];have hwl:=L9 l.k 0 1 2 (by omega);have hk:=fun n=>AMH n l.k 0 1 2 (by omega) (by omega) (by omega);obtain⟨c',γ',ih⟩:=AWI (n+95) b l h1 h4 (F9 l.k 0 1 2) (by omega) (F9 l.k 0 1 2).length 0 [] 2 0 (n+495) (by omega) (by omega) (by simp);have hcl:((readingsP b.chairs l).map AB).all (fun e=>e.all (AK 9))=true:=by simp[AB]
 simp only[cj,ck,AE,AB]at ih|-;try simp at ih
 have hr:readingsP b.chairs l=rd1 b.chairs l (F9 l.k 0 1 2):=rfl;rw[<-hr]at ih;generalize readingsP b.chairs l=R at ih hcl|-;simp[AQ7,AJ,hk,ih,jA];exact AG4 (R:=36) (T:=96) (by kernel_rfl) (by simp) _ _ _ _ _ _ rfl hcl
@[simp] theorem AQD:II cx 142=true:=by kernel_rfl
set_option maxHeartbeats 1000000 in
theorem k33(n:Nat)(b:A5)(k:Int)(hk64:b.lines.length<=500):AW cx kn (AH cx ann kn (n+3200)) 115 [.agg (AE b),i k]=some (ABI b k):=by
  rw[AO rfl,AP Tryz.func115 BEU rfl (by simp[AE,AB,AM])];have q68:=fun n=>k68 n b (D7 k 0 ((b.lines.length:Int)-1));have hw:IntKind.i64.wrap ((b.lines.length:Int)-1)=(b.lines.length:Int)-1:=AU (by omega) (by omega);have q69:=fun n=>k69 n k 0 ((b.lines.length:Int)-1);unfold ABI;by_cases he:EG b (D7 k 0 ((b.lines.length:Int)-1))=0
  · obtain⟨h0,h1,h2⟩:=U7 he
    obtain⟨k,rfl⟩:∃j:Nat,k=j:=⟨k.toNat,by simp[D7]at h1;omega⟩
    have hk:k<b.lines.length:=by simp[D7]at h1;omega
    have hb:=XN h0
    rw[if_pos he]
    rw[he]at q68
    rw[h1]at he
    have hne:=aP hk he
    have q79:=fun n=>k79 n b
    have hL0:A9P b k [] [(A9,4,.loop (WF b) [23,24] (HF 151) LF 39 .ready),(2,0,.box (AE b)),(3,1,.box [i k]),(7,3,.box [.mp 0 20 2]),(20,2,.map [])] :=
      ⟨by simp[A9],by simp[A9],by simp[A9],by simp[A9],by simp[A9],by simp[A9],by simp,fun t ht=>by
        have e0:¬0=t.up.length:=by omega
        obtain⟨up,loc⟩:=t;simp only at e0;have:=ABH ⟨up,loc⟩ [];simp only[bp]at this;simp[AE,e0,this],⟨by simp,by simp⟩⟩
    obtain⟨L',c',r1,r2,r3⟩:=BAI hb (fun a L h=>h.st) (AWH hb hk) [] _ hL0 (WF b)
    have hfd:RK b k=MF (QS k) [] (GO b):=rfl
    rw[<-hfd]at r1
    have hline:b.lines.getD k CX=b.lines[k]:=by simp[bw,hk]
    unfold JO at hne|-
    rw[hline]at hne
    rw[Int.toNat_natCast,hline]
    generalize RK b k=a at *
    obtain⟨p2,p3,p7,p20,p22,p36,pr,pst,pok⟩:=r1
    have hrok:∀x∈readingsP b.chairs b.lines[k],NJ x:=fun x hx=>RJ hb hk hx
    have hrl:(readingsP b.chairs b.lines[k]).length<=40:=by have:=EQ b.chairs b.lines[k] hb.ch4;omega
    have q81:=fun n=>o81 n b b.lines[k] hb.ch1 hb.ch4
    have hgk:(b.lines.map AB)[k]? = some (AB b.lines[k]):=by simp[hk]
    generalize readingsP b.chairs b.lines[k]=X at *
    have hLv:cR c' a X [(36,c',.vec 96 (X.map AB)),(2,0,.box (AE b)),(3,1,.box [i k]),(7,3,.box [.mp 0 20 2]),(20,2,.map (a.map NH))] :=
      ⟨by simp,by simp,by simp,fun t ht=>by
        have e0:¬0=t.up.length:=by omega
        obtain⟨up,loc⟩:=t;simp only at e0;rw[BJ,EZ];simp[AE,e0]⟩
    have r3:=r3 (n+993)
    have hw2:((b.lines.length:Int)-1)=((b.lines.length:Int)-1):=rfl
    rw[h1]at q69 q68
    simp only[AE,WF,cj,ck]at q68 q79 r3 q81
    simp only[AB]at hgk q81
    simp[ARI,AJ,AE,AB,AM,hw,q69,q68,q79,NG]
    rw[PP rfl]
    simp
    rw[show(Code.block 1 (HF 343))=LF from rfl]
    simp only[r3]
    rw[TD (fr0:=WF b) (ps:=[23,24]) (asg:=(HF 151)) (body:=LF) (N:=39) (by simpa using pr) (by omega)]
    simp[AE,p2,p3,p7,p20,p22,p36,AA.put,A9,hk,hgk,AB,q81,show Nat.beq 5 1=false from rfl,DE]
    obtain⟨L2,es,c2,i2,e36,etk,ele,q80⟩:=k80 (n+2494) hLv pok hrok hrl (c'+1) 38 [(36,true,V.vec 0 36 c' X.length),(37,true,V.fn 143 [] [V.ptr 0 7 3 0]),
                          (35,true,V.agg [i b.lines[k].k,i b.lines[k].c,i b.lines[k].t]),
                          (34,true,V.ref [i b.lines[k].k,i b.lines[k].c,i b.lines[k].t]),(33,true,i k),
                          (32,true,V.list false (cq AB b.lines)),(31,true,V.ptr 0 2 0 3),
                          (30,true,
                            V.agg
                              [i b.chairs,i b.coin,i b.box,V.list false (cq AB b.lines),
                                V.list false (cq AM b.counts)]),
                          (2,true,V.ptr 0 2 0 0),(3,true,V.ptr 0 3 1 0),(7,true,V.ptr 0 7 3 0)] (by omega)
    simp only[AE,cj,ck]at q80
    rw[q80]
    generalize X.filter (·∈a)=F at *
    have hcl:(F.map AB).all (fun e=>e.all (AK 8))=true:=by simp[AB]
    cases F with
    |nil=>exact absurd rfl hne
    |cons y F=>
      simp[e36]
      rw[if_pos (by simpa using ele)]
      try simp at etk
      simp[etk,sl,AB]
      done
  · have e:decide (EG b (D7 k 0 ((b.lines.length:Int)-1))=0)=false:=by simpa using he
    rw[if_neg he]
    simp only[AE]at q68|-
    generalize D7 k 0 ((b.lines.length:Int)-1)=z at *
    generalize EG b z=A at q68 e|-
    simp[ARI,AJ,AB,AM,hw,q69,q68,e]
    done
end Go.Proofs.Tryz.Op
