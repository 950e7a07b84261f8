/- DeleteFunc of scenes in the level of Decide. No condition. -/
import Derived.Test.YtmnlpgjklibndaaGreatJ3
open Go.Proofs.Tryz renaming prog->cx
open List renaming drop_eq_getElem_cons->bj,getElem?_eq_getElem->bq,getElem_mem->bw,all_eq_true->bx,length_filter_le->bz,replicate->bc,mem_map->bf,getElem?_take_of_lt->bg,append_assoc->bh,not_mem_nil->bp,mem_cons->br,length_map->bt,take_succ_cons->cj,drop_zero->ck
open Nat renaming le_refl->bn
open Option renaming some->cq
set_option maxRecDepth 100000
set_option linter.unusedSimpArgs false
open Go Go.Pg Go.Proofs Go.Season
namespace Go.Proofs.Tryz.Op
structure LvD(γ g:Nat)(l:List Wrd)(S:List (List AF))(L:AA):Prop where
 p11:L.get 11=some (g,.box [J2 l])
 p48:L.get 48=some (γ,.vec 114 (S.map AZ))
 st:∀t:St,1<=t.up.length->AQ t L=L
def DG(l:List Wrd)(s:List AF):Bool:=l.all (BI s)
def AKB(l:List Wrd)(S:List (List AF)):Prop:=∀s∈S,s.length<=1000/\∀w∈l,GB s.length w
theorem AOI(n:Nat){γ g:Nat}{l:List Wrd}{S:List (List AF)}{L:AA}(hL:LvD γ g l S L)(hl:l.length<=40)(rs:List AA)(loc:AA)(hst:∀t:St,rs.length+2<=t.up.length->(rs++[loc]).map (AQ t)=rs++[loc])(s:List AF)(hs:s.length<=1000/\∀w∈l,GB s.length w)(c dd:Nat)(fr:Fr) :
  K3 (BX cx ann kn (n+500)) (some dd) ⟨c,fr,⟨L::rs,loc⟩⟩ 87 [sc s,.ptr 0 11 g 0]=some ⟨c,(dd,true,.bool (!DG l s))::fr,⟨L::rs,loc⟩⟩:=by
 have q:=fun n=>ACD n s l hs.1 hl hs.2
 have p11:=hL.p11
 rw[BP Tryz.func87 b87 rfl (by simp)]
 have h1:=fun t h=>hst t h
 have h2:=hL.st
 unfold DG
 generalize l.all (BI s)=b at q|-
 simp only[sc]at q|-
 simp[c87,AJ,p11,q]
 have z:=fun t h=>aO (hst t h)
 refine⟨⟨h2 _ (by simp),(z _ (by simp)).1⟩,(z _ (by simp)).2⟩
def V4(l:List Wrd):Nat->List (List AF)->Option Nat
 |_,[]=>none
 |k,x::r=>if DG l x=true then V4 l (k+1) r else some k
theorem AOJ{γ g:Nat}{l:List Wrd}{xs:List (List AF)}{L:AA}(hL:LvD γ g l xs L)(hl:l.length<=40)(hxs:AKB l xs)(rs:List AA)(hst:∀t:St,rs.length+1<=t.up.length->rs.map (AQ t)=rs)(hln:xs.length<=5000) :
  ∀(d k c:Nat),k+d=xs.length->∀n m,d<m ->
  BN (AH cx ann kn (n+600) 19) R3 (ann 19 (CC R3)) m ⟨c,[(0,true,.vec 0 48 γ xs.length),(1,true,.fn 87 [] [.ptr 0 11 g 0]),(7,true,i xs.length),(8,true,i k)],⟨L::rs,[]⟩⟩ =
   match V4 l k (xs.drop k)with
   |some j=>some (.ret,⟨c,[(4,true,i j),(17,true,i j),(5,true,i j)],⟨L::rs,[]⟩⟩)
   |none=>some (.exit 0,⟨c,[(9,true,.bool false),(0,true,.vec 0 48 γ xs.length),(1,true,.fn 87 [] [.ptr 0 11 g 0]),(7,true,i xs.length),(8,true,i xs.length)],⟨L::rs,[]⟩⟩)
 |0,k,c,hd,n,m+1,hm=>by
  have hk:k=xs.length:=by omega
  subst hk;rw[List.drop_length];simp[AD,V4]
 |d+1,k,c,hd,n,m+1,hm=>by
  have hk:k<xs.length:=by omega
  have hw:=DF (k:=k) (by omega);have p48:=hL.p48;have hgk:(xs.map AZ)[k]? = some (AZ xs[k]):=by simp[hk]
  have ih:=AOJ hL hl hxs rs hst hln d (k+1) c (by omega) n m (by omega);have q:=fun n c dd fr=>AOI n hL hl rs [] (fun t h=>by rw[List.map_append,hst t (by omega)];rfl) xs[k] (hxs _ (bw hk)) c dd fr;rw[bj hk];simp only[V4];simp only[AZ,sc]at hgk q;generalize hX:xs.map AZ=XX at p48 hgk;have hXl:XX.length=xs.length:=by rw[<-hX,bt]
  have hkX:k<XX.length:=by omega
  have hXk:=bq hkX;rw[hgk]at hXk;have hXk:=(cq.inj hXk).symm;rw[AD];cases he:DG l xs[k]with
  |true=>
   simp only[he,Bool.not_true,if_true]at q|-
   generalize V4 l (k+1) (xs.drop (k+1))=o at ih|-
   cases o<;>(simp only at ih|-;try simp at ih;simp[hk,hw,p48,hgk,hXk,hkX,hXl,AZ,sc,q,ih])
  |false=>
   simp only[he,Bool.not_false,Bool.false_eq_true,if_false]at q|-
   simp[hk,hw,p48,hgk,hXk,hkX,hXl,AZ,sc,q]
theorem A5B(n:Nat){γ g:Nat}{l:List Wrd}{xs:List (List AF)}{L:AA}(hL:LvD γ g l xs L)(hl:l.length<=40)(hxs:AKB l xs)(hln:xs.length<=5000)(c dd:Nat)(fr:Fr) :
  K3 (BX cx ann kn (n+5700)) (some dd) ⟨c,fr,⟨[L],[]⟩⟩ 125 [.vec 0 48 γ xs.length,.fn 87 [] [.ptr 0 11 g 0]]=some ⟨c,(dd,true,i (cS (V4 l 0 xs)))::fr,⟨[L],[]⟩⟩:=by
 have h:=AOJ hL hl hxs [[]] (fun t _=>by simp) hln xs.length 0 c (by omega) (n+5095) (n+5695) (by omega)
 have hs:=hL.st
 rw[BP Tryz.func125 b125 rfl (by simp)]
 rw[ck]at h
 generalize V4 l 0 xs=q at h
 cases q with
 |some j=>simp at h;simp[ARN,AJ,h,hs,cS]
 |none=>simp at h;simp[ARN,AJ,h,hs,cS]
theorem dJ(R:List (List AF))(j:Nat)(x:List AF):(R.set j x).map AZ=(R.map AZ).set j (AZ x):=List.map_set
theorem LvD.set{γ g:Nat}{l:List Wrd}{R:List (List AF)}{L:AA}(h:LvD γ g l R L)(j:Nat)(x:List AF):LvD γ g l (R.set j x) ((48,γ,.vec 114 ((R.map AZ).set j (AZ x)))::L) where
 p11:=by simpa using h.p11
 p48:=by simp[dJ]
 st:=by intro t ht;rw[BJ,h.st t ht,<-dJ,ID]
theorem AEL{γ g:Nat}{l:List Wrd}{xs:List (List AF)}(hl:l.length<=40)(hxs:AKB l xs)(hln:xs.length<=5000):∀(d j:Nat) (R:List (List AF)) (L:AA) (c:Nat),j+d=xs.length->R.length=xs.length->R.take ((xs.take j).filter (DG l)).length=(xs.take j).filter (DG l)->R.drop j=xs.drop j->LvD γ g l R L->γ<c ->
  ∃L' R' c',c<=c'/\LvD γ g l R' L'/\(∀k,k≠48->L'.get k=L.get k)/\R'.length=xs.length/\R'.take (xs.filter (DG l)).length=xs.filter (DG l)/\∀n m,d<m ->
  BN (AH cx ann kn (n+600) 42) YI (ann 42 (CC YI)) m ⟨c,[(0,true,.vec 0 48 γ xs.length),(1,true,.fn 87 [] [.ptr 0 11 g 0]),(5,true,i ((xs.take j).filter (DG l)).length),(6,true,i j)],⟨[L],[]⟩⟩ =
   some (.exit 0,⟨c',[(19,true,.bool false),(18,true,i xs.length),(17,true,.vec 0 48 γ xs.length),(16,true,i xs.length),(0,true,.vec 0 48 γ xs.length),(1,true,.fn 87 [] [.ptr 0 11 g 0]),(5,true,i (xs.filter (DG l)).length),(6,true,i xs.length)],⟨[L'],[]⟩⟩)
 |0,j,R,L,c,hd,hR,ht,hdr,hL,hc=>by
  have hj:j=xs.length:=by omega
  subst hj;rw[List.take_length]at ht|-;refine⟨L,R,c,bn _,hL,fun _ _=>rfl,hR,ht,fun n m hm=>?_⟩;obtain⟨m,rfl⟩:=qNz m (by omega);generalize (xs.filter (DG l)).length=F;simp[AD]
 |d+1,j,R,L,c,hd,hR,ht,hdr,hL,hc=>by
  have hj:j<xs.length:=by omega
  have hjR:j<R.length:=by omega
  have hw:=DF (k:=j) (by omega);have hRj:R[j]=xs[j]:=by rw[bj hj,bj hjR]at hdr;exact(List.cons.inj hdr).1
  have hdr':R.drop (j+1)=xs.drop (j+1):=by rw[bj hj,bj hjR]at hdr;exact(List.cons.inj hdr).2
  have p48:=hL.p48;have hgk:(R.map AZ)[j]? = some (AZ xs[j]):=by simp[hjR,hRj]
  have hxj:=hxs _ (bw hj);have hf:(xs.take (j+1)).filter (DG l)=(xs.take j).filter (DG l)++(if DG l xs[j]=true then[xs[j]] else[]):=by rw[List.take_succ_eq_append_getElem hj,List.filter_append];congr 1;cases he:DG l xs[j]<;>simp[he]
  have hfl:((xs.take j).filter (DG l)).length<=j:=by
   have:=bz (DG l) (xs.take j);try simp at this
   omega
  have q:=fun n c dd fr=>AOI n hL hl [] [] (fun t h=>by simp) xs[j] hxj c dd fr;cases he:DG l xs[j]with
  |true=>
   rw[he,if_pos rfl]at hf
   simp only[he,Bool.not_true]at q
   have hlen:((xs.take (j+1)).filter (DG l)).length=((xs.take j).filter (DG l)).length+1:=by rw[hf];simp
   have hL':=hL.set ((xs.take j).filter (DG l)).length xs[j]
   obtain⟨L',R',c',i0,i1,ig,i2,i3,ih⟩:=AEL hl hxs hln d (j+1) (R.set ((xs.take j).filter (DG l)).length xs[j]) _ c (by omega) (by simp[hR]) (by rw[hlen,hf];exact MG ht (by omega)) (by rw[List.drop_set_of_lt (by omega)];exact hdr') hL' hc
   refine⟨L',R',c',by omega,i1,fun q hq=>(ig q hq).trans (by simp[hq]),i2,i3,fun n m hm=>?_⟩
   obtain⟨m,rfl⟩:=qNz m (by omega)
   have ih:=ih n m (by omega)
   rw[hlen]at ih
   rw[AD]
   generalize hF:((xs.take j).filter (DG l)).length=F at *
   have hw2:IntKind.i64.wrap ((F:Int)+1)=(F:Int)+1:=AU (by omega) (by omega)
   have hFR:F<R.length:=by omega
   have hFx:F<xs.length:=by omega
   simp only[AZ,sc]at hgk q
   simp[AZ,sc]at ih
   simp[hj,hw,hw2,p48,hgk,AZ,sc,hRj,q,hFR,hFx,hR,hc,AA.put,ih]
  |false=>
   rw[he,if_neg (by simp),List.append_nil]at hf
   simp only[he,Bool.not_false]at q
   obtain⟨L',R',c',i0,i1,ig,i2,i3,ih⟩:=AEL hl hxs hln d (j+1) R L c (by omega) hR (by rw[hf];exact ht) hdr' hL hc
   refine⟨L',R',c',by omega,i1,ig,i2,i3,fun n m hm=>?_⟩
   obtain⟨m,rfl⟩:=qNz m (by omega)
   have ih:=ih n m (by omega)
   rw[hf]at ih
   rw[AD]
   generalize hF:((xs.take j).filter (DG l)).length=F at *
   simp only[AZ,sc]at hgk q
   try simp at ih
   simp[hj,hw,p48,hgk,AZ,sc,hR,hRj,q,ih]
theorem dK{l:List Wrd}:∀{S:List (List AF)} {k:Nat},V4 l k S=none->∀x∈S,DG l x=true
 |[],_,_,x,hx=>by simp at hx
 |y::r,k,h,x,hx=>by
  unfold V4 at h;split at h
  ·rename_i hy;rcases br.1 hx with rfl|hx
   ·exact hy
   ·exact dK h x hx
  ·cases h
theorem dL{l:List Wrd}:∀{S:List (List AF)} {k j:Nat},V4 l k S=some j->∃m,j=k+m/\m<S.length/\(S.take (m+1)).filter (DG l)=S.take m
 |[],_,_,h=>by cases h
 |y::r,k,j,h=>by
  unfold V4 at h;split at h
  ·rename_i hy;obtain⟨m,e,hm,hf⟩:=dL h;exact⟨m+1,by omega,by simpa using hm,by rw[cj,List.filter_cons_of_pos hy,hf,cj]⟩
  ·rename_i hy;cases h;exact⟨0,rfl,by simp,by simp[hy]⟩
theorem yW(t:St)(T:TypeId){es:List (List V)}(h:∀e∈es,e=[.raw (.pointer none)]\/∃x,e=AZ x):BU t (.vec T es)=.vec T es:=by
 refine LZ fun e he v hv=>?_;rcases h e he with rfl|⟨x,rfl⟩
 ·simp only[br,bp,or_false]at hv;subst hv;rfl
 ·simp only[AZ,br,bp,or_false]at hv;subst hv;rfl
theorem A5C{γ g:Nat}{l:List Wrd}{xs:List (List AF)}{L:AA}(hL:LvD γ g l xs L)(hl:l.length<=40)(hxs:AKB l xs)(hln:xs.length<=5000)(c:Nat)(hc:γ<c) :
  ∃L' es c',c<=c'/\L'.get 48=some (γ,.vec 114 es)/\(∀k,k≠48->L'.get k=L.get k)/\es.take (xs.filter (DG l)).length=(xs.filter (DG l)).map AZ/\(xs.filter (DG l)).length<=es.length/\(∀t:St,1<=t.up.length->AQ t L'=L')/\∀n dd fr,
  K3 (BX cx ann kn (n+6500)) (some dd) ⟨c,fr,⟨[],L⟩⟩ 85 [.vec 0 48 γ xs.length,.fn 87 [] [.ptr 0 11 g 0]]=some ⟨c',(dd,true,.vec 0 48 γ (xs.filter (DG l)).length)::fr,⟨[],L'⟩⟩:=by
 have q1:=fun m d fr=>A5B m hL hl hxs hln c d fr
 have hs:=hL.st
 cases hq:V4 l 0 xs with
 |none=>
  rw[hq]at q1
  have hF:xs.filter (DG l)=xs:=List.filter_eq_self.2 fun x hx=>dK hq x hx
  rw[hF]
  refine⟨L,xs.map AZ,c,bn _,hL.p48,fun _ _=>rfl,List.take_of_length_le (by rw[bt];exact bn _),by rw[bt];exact bn _,hs,fun n dd fr=>?_⟩
  rw[BP Tryz.func85 b85 rfl (by simp)]
  simp only[cS]at q1
  simp[c85,AJ,q1,hs]
 |some j=>
  rw[hq]at q1
  obtain⟨m,e,hm,hf⟩:=dL hq
  have e:j=m:=by omega
  subst e
  have hfl:((xs.take (j+1)).filter (DG l)).length=j:=by rw[hf];simp;omega
  obtain⟨L',R',c',i2,h1,hg,h2,h3,h4⟩:=AEL (γ:=γ) hl hxs hln (xs.length-(j+1)) (j+1) xs L c (by omega) rfl (by rw[hfl,hf]) rfl hL hc
  rw[hfl]at h4
  have h4:=fun n=>h4 (n+5893) (n+6493) (by omega)
  have hFl:(xs.filter (DG l)).length<=xs.length:=bz _ _
  have hs':=h1.st
  have p48:=h1.p48
  have hw:IntKind.i64.wrap ((j:Int)+1)=(j:Int)+1:=AU (by omega) (by omega)
  have hes:(R'.map AZ).take (xs.filter (DG l)).length=(xs.filter (DG l)).map AZ:=by rw[<-List.map_take,h3]
  generalize hFF:(xs.filter (DG l)).length=F at *
  have hFR:F<=(R'.map AZ).length:=by simp;omega
  have hst2:∀t:St,1<=t.up.length->AQ t ((48,γ,.vec 114 ((R'.map AZ).take F++bc (xs.length-F) [V.raw (.pointer none)]++(R'.map AZ).drop xs.length))::L')=((48,γ,.vec 114 ((R'.map AZ).take F++bc (xs.length-F) [V.raw (.pointer none)]++(R'.map AZ).drop xs.length))::L'):=fun t ht=>by
   rw[BJ,hs' t ht,yW _ _ (fun e he=>by
    simp only[List.mem_append]at he;rcases he with(he|he)|he
    ·obtain⟨x,_,rfl⟩:=bf.1 (List.mem_of_mem_take he);exact .inr ⟨x,rfl⟩
    ·exact .inl (List.eq_of_mem_replicate he)
    ·obtain⟨x,_,rfl⟩:=bf.1 (List.mem_of_mem_drop he);exact .inr ⟨x,rfl⟩)]
  refine⟨(48,γ,.vec 114 ((R'.map AZ).take F++bc (xs.length-F) [V.raw (.pointer none)]++(R'.map AZ).drop xs.length))::L',((R'.map AZ).take F++bc (xs.length-F) [V.raw (.pointer none)]++(R'.map AZ).drop xs.length),c',by omega,by simp,fun q hq=>by simp[hq,hg q hq],?_,?_,hst2,fun n dd fr=>?_⟩
  ·rw[bh,List.take_append_of_le_length (by simp;omega),List.take_take,Nat.min_self,hes]
  ·simp;omega
  ·rw[BP Tryz.func85 b85 rfl (by simp)];simp only[cS]at q1;try simp at h4
   have hFi:(F:Int)<=(xs.length:Int):=by omega
   have hne:R'.map AZ≠[]:=by intro h0;have:=congrArg List.length h0;simp at this;rw[this]at h2;simp at h2;omega
   have hal:(R'.map AZ).all (fun x=>x.length==cx.cellsOf 114)=true:=bx.2 fun e he=>by obtain⟨x,_,rfl⟩:=bf.1 he;simp[AZ]
   have v1:=eV (P:=cx) (s:=⟨[L'],[]⟩) (T:=108) (e:=114) (U:=114) (es:=R'.map AZ) (l:=0) (k:=48) (g:=γ) (n:=xs.length) (i:=F) (by kernel_rfl) (by simpa using p48) hal hne hFl (by simp);have v2:=fun s=>eW (P:=cx) (s:=s) (T:=108) (e:=114) (l:=0) (k:=48) (g:=γ) (n:=xs.length) (h:=F) (by kernel_rfl) hFl (by simp);have v3:=fun n fr x hx=>eX (P:=cx) (E:=BX cx ann kn n) (c:=c') (fr:=fr) (s:=⟨[L'],[]⟩) (T:=108) (e:=114) (x:=x) (es:=R'.map AZ) (z:=[V.raw (.pointer none)]) (l:=0) (q:=48) (γ:=γ) (i:=F) (n:=xs.length-F) (by kernel_rfl) hx (by simpa using p48) (by simp) (by simp;omega) (by simp[AZ]) (by omega);have hFF:F+(xs.length-F)=xs.length:=by omega
   simp only[hFF]at v3;simp[c85,AJ,q1,hs,hw,h4,hs',p48,hFl,hFi,hFR,v1,v2,v3];have h5:=hst2 ⟨[(48,γ,.vec 114 ((R'.map AZ).take F++bc (xs.length-F) [V.raw (.pointer none)]++(R'.map AZ).drop xs.length))::L'],[]⟩ (by simp);simp only[AA.put,bh]at h5|-;exact h5
theorem ASQ(e:List V)(es:List (List V)):F3 cx .eql 108 (.list false (e::es)) .nil=some (.bool false):=by
 have h:DQ cx 108=true:=by kernel_rfl
 show(if DQ cx 108=true then(HK (.list false (e::es))).map V.bool else none)=_;rw[if_pos h];rfl
theorem AKC(f:Nat)(S:List (List AF)):(S.map AZ).all (fun e=>e.all (AK (f+3)))=true:=bx.2 fun e he=>by obtain⟨l,_,rfl⟩:=bf.1 he;simp[AZ,sc,AB]
@[simp] theorem ASR:II cx 86=true:=by kernel_rfl
theorem o86(n:Nat)(S:List (List AF))(hne:S≠[])(hl:S.length<=5000):EM cx (AH cx ann kn (n+100)) 86 [.list false (S.map AZ)]=some ⟨.vec 114 (S.map AZ),none⟩:=by
 have hcl:=AKC 6 S;have hcl8:=AKC 5 S;rw[UR Tryz.func86 b86 rfl (by simpa using hcl8)];have ha:CD cx 114 0 (S.map AZ)=true:=by
  rw[CQ (by simp) (by simp)];refine⟨bx.2 fun e he=>?_,?_,?_⟩
  ·obtain⟨x,_,rfl⟩:=bf.1 he;simp[AZ]
  ·simp[maxLen];omega
  ·simp;omega
 cases S with
 |nil=>exact absurd rfl hne
 |cons x S=>
  simp only[List.map_cons]at hcl ha|-
  generalize S.map AZ=SS at hcl ha|-
  generalize AZ x=y at hcl ha|-
  simp[c86,AJ,ASQ,ha,jA]
  exact AG4 (R:=108) (T:=114) (by kernel_rfl) (by simp) _ _ _ _ _ _ rfl hcl
theorem AEM(n:Nat)(f:FuncId)(φ:List AF->Bool)(S:List (List AF))(w:Wrd)(b:Bool)(cc c3 γ:Nat)(es:List (List V))(L:AA)(rs:List AA)(p48:L.get 48=some (γ,.vec 114 es))(hes:es.take S.length=S.map AZ)(hel:S.length<=es.length)(hS:S.length<=10000)(hf:∀n s,s∈S->AW cx kn (AH cx ann kn (n+400)) f [sc s,.list false [AG w]]=some (.bool (φ s)))(hh:BE cx f=false):∀(d k m:Nat),k+d=S.length->d<m ->
  BN (AH cx ann kn (n+450) 32) Q1 (ann 32 (CC Q1)) m ⟨cc,[(2,true,.list false [AG w]),(3,true,.ptr (rs.length+1) 3 c3 0),(7,true,.bool b),(17,true,.vec 0 48 γ S.length),(18,true,i S.length),(19,true,i k)],⟨L::rs,[(3,c3,.box [.fn f [] []])]⟩⟩ =
   bif (S.drop k).all (fun t=>φ t==b) then some (.exit 0,⟨cc,[(20,true,.bool false),(2,true,.list false [AG w]),(3,true,.ptr (rs.length+1) 3 c3 0),(7,true,.bool b),(17,true,.vec 0 48 γ S.length),(18,true,i S.length),(19,true,i S.length)],⟨L::rs,[(3,c3,.box [.fn f [] []])]⟩⟩)
   else some (.ret,⟨cc,[(6,true,i 3)],⟨L::rs,[]⟩⟩)
 |0,k,m+1,hd,hm=>by
  have:k=S.length:=by omega
  subst this;simp[AD]
 |d+1,k,m+1,hd,hm=>by
  have hk:k<S.length:=by omega
  have hwk:IntKind.i64.wrap ((k:Int)+1)=((k+1:Nat):Int):=DF (by omega);have q:=fun n=>hf n S[k] (bw hk);have ih:=AEM n f φ S w b cc c3 γ es L rs p48 hes hel hS hf hh d (k+1) m (by omega) (by omega);have hke:k<es.length:=by omega
  have hek:es[k]=AZ S[k]:=by
   have h1:(es.take S.length)[k]? = (S.map AZ)[k]?:=by rw[hes]
   rw[bg hk,List.getElem?_map,bq hke,bq hk]at h1;exact cq.inj h1
  rw[AD,bj hk];simp only[List.all_cons];generalize φ S[k]=x at q|-;simp only[sc,AG,AZ]at q ih hek|-;try simp at ih
  cases x<;>cases b<;>simp[hk,hwk,p48,hke,hek,hel,sc,AB,AG,q,hh,ih]
theorem ASS(f:FuncId)(φ:List AF->Bool)(S:List (List AF))(w:Wrd)(c γ:Nat)(es:List (List V))(L J:AA)(p48:L.get 48=some (γ,.vec 114 es))(hes:es.take S.length=S.map AZ)(hel:S.length<=es.length)(hS:S.length<=10000)(hne:S≠[])(hf:∀n s,s∈S->AW cx kn (AH cx ann kn (n+400)) f [sc s,.list false [AG w]]=some (.bool (φ s)))(hh:BE cx f=false)(hLs:∀t:St,1<=t.up.length->AQ t L=L)(hJs:∀t:St,2<=t.up.length->AQ t J=J) :
  ∀n dd fr,K3 (BX cx ann kn (n+10600)) (some dd) ⟨c,fr,⟨[L],J⟩⟩ 69 [.agg [.fn f [] []],.vec 0 48 γ S.length,.list false [AG w]]=some ⟨c+1,(dd,true,i (ER φ S))::fr,⟨[L],J⟩⟩:=by
 cases S with
 |nil=>exact absurd rfl hne
 |cons s S=>
  intro n dd fr
  have q0:=fun n=>hf n s (by simp)
  have q:=AEM (n+10144) f φ (s::S) w (φ s) (c+1) c γ es L [J] p48 hes hel hS hf hh (s::S).length 0 (n+10594) (by omega) (by omega)
  have h0e:0<es.length:=by simp at hel;omega
  have he0:es[0]=AZ s:=by
   have h1:(es.take (s::S).length)[0]? = ((s::S).map AZ)[0]?:=by rw[hes]
   rw[bg (by simp),bq h0e]at h1;exact cq.inj h1
  rw[BP Tryz.func69 b69 rfl (by simp)]
  simp only[ck,Int.natCast_zero,Nat.add_assoc,Nat.reduceAdd]at q
  have hv:ER φ (s::S)=(if (s::S).all (fun t=>φ t==φ s)=true then(if φ s=true then 1 else 2) else 3):=rfl
  rw[hv]
  generalize (s::S).all (fun t=>φ t==φ s)=z at q|-
  generalize φ s=x at q q0|-
  have hln:(s::S).length=S.length+1:=rfl
  have hne0:es≠[]:=fun e=>by rw[e]at h0e;cases h0e
  rw[hln]at q hel|-
  simp only[sc,AG,AZ]at q0 q he0|-
  try simp at q
  cases z<;>cases x<;>(try simp at q)<;>(simp[c69,AJ,AB,AG,p48,he0,h0e,hel,q0,hh];simp[q,hLs,hJs])
theorem AKD(N:Nat)(S:List (List AF))(w:Wrd)(c γ:Nat)(es:List (List V))(L:AA)(p48:L.get 48=some (γ,.vec 114 es))(hes:es.take S.length=S.map AZ)(hel:S.length<=es.length)(hS:S.length<=10000)(hne:S≠[])(hl:∀s∈S,s.length=N)(hN:N<=1000)(h:GB N w)(hLs:∀t:St,1<=t.up.length->AQ t L=L) :
  ∀n dd fr,K3 (BX cx ann kn (n+10800)) (some dd) ⟨c,fr,⟨[],L⟩⟩ 66 [.vec 0 48 γ S.length,.agg (AG w)]=some ⟨c+2,(dd,true,i (BO w S))::fr,⟨[],L⟩⟩:=by
 intro n dd fr
 have q:=ASS 113 (fun ls=>[w].all (BI ls)) S w (c+1) γ es L [(3,c,.box (AG w))] p48 hes hel hS hne (fun n s hs=>AC1 n s [w] (by rw[hl s hs]; exact hN) (by simp) (fun x hx=>by simp at hx; subst hx; rw[hl s hs]; exact h)) (by simp) hLs (fun t ht=>by
  obtain⟨up,loc⟩:=t;simp[AG])
 unfold BO
 generalize ER _ S=v at q|-
 rw[BP Tryz.func66 b66 rfl (by simp)]
 simp only[AG]at q|-
 simp[c66,AJ,q,hLs,AG]
theorem lI(t:St)(k γ:Nat)(T:TypeId)(out:List Int):AQ t (pl k γ T (out.map BM))=pl k γ T (out.map BM):=by
 cases out with
 |nil=>rfl
 |cons x xs=>
  show AQ t [(k,γ,.vec T ((x::xs).map BM))]=[(k,γ,.vec T ((x::xs).map BM))]
  rw[BJ,LZ fun e he v hv=>by
   obtain⟨y,_,rfl⟩:=bf.1 he;simp only[BM,br,bp,or_false]at hv;subst hv;rfl]
  rfl
def wF(c:BC)(w:Wrd)(l:List Wrd)(out:List Int)(g8 γ cc:Nat):AA:=(48,cc+1,.vec 114 ((AR c).map AZ))::(2,0,.box (AC c))::(8,g8,.box (AG w))::(11,cc,.box [J2 l])::pl 63 γ 3 (out.map BM)
theorem AST(c:BC)(w:Wrd)(l:List Wrd)(out:List Int)(g8 γ cc:Nat)(t:St)(ht:1<=t.up.length):AQ t (wF c w l out g8 γ cc)=wF c w l out g8 γ cc:=by obtain⟨up,loc⟩:=t;unfold wF;rw[BJ,ID,BJ,BJ,BJ,lI];simp[AC,AB,AM,AG,AL]
theorem AKE(c:BC)(ok:QE c)(hne:AR c≠[])(w:Wrd)(hw:GB c.book.lines.length w)(g8:Nat):∀(d k:Nat) (out:List Int) (cc γ:Nat),k+d=c.wits.length->out.length<=k->g8<cc->γ<cc ->
  ∃c' γ',cc<=c'/\∀n m,d<m->BN (AH cx ann kn (n+10900) 66) YJ (ann 66 (CC YJ)) m ⟨cc,[(6,true,fU c),(8,true,.ptr 0 8 g8 0),(9,true,pv 63 γ (out.map BM)),(37,true,.list false (c.wits.map AL)),(38,true,i c.wits.length),(39,true,i k)],⟨[],(2,0,.box (AC c))::(8,g8,.box (AG w))::pl 63 γ 3 (out.map BM)⟩⟩ =
  some (.exit 0,⟨c',[(40,true,.bool false),(6,true,fU c),(8,true,.ptr 0 8 g8 0),(9,true,pv 63 γ' ((out++D4 (AR c) w k (c.wits.drop k)).map BM)),(37,true,.list false (c.wits.map AL)),(38,true,i c.wits.length),(39,true,i c.wits.length)],⟨[],(2,0,.box (AC c))::(8,g8,.box (AG w))::pl 63 γ' 3 ((out++D4 (AR c) w k (c.wits.drop k)).map BM)⟩⟩)
 |0,k,out,cc,γ,hd,ho,h8,hg=>by
  have:k=c.wits.length:=by omega
  subst this;refine⟨cc,γ,bn _,fun n m hm=>?_⟩;obtain⟨m,rfl⟩:=qNz m (by omega);simp[AD,fU,AC,AG,D4]
 |d+1,k,out,cc,γ,hd,ho,h8,hg=>by
  have hk:k<c.wits.length:=by omega
  have h8l:=ok.lines;have h4:=ok.wl;have hle:=WK ok;have hwk:=DF (k:=k) (by omega);have q86:=fun n=>o86 n (AR c) hne (by omega);have hgw:(c.wits.map AL)[k]? = some (AL c.wits[k]):=by simp[hk]
  have hl:=ok.wx _ (bw hk);have hww:=ok.ww _ (bw hk);generalize hlw:c.wits[k]=l at *;have hL:LvD (cc+1) cc l (AR c) (wF c w l out g8 γ cc):=⟨by simp[wF],by simp[wF],AST c w l out g8 γ cc⟩;obtain⟨L',es,c1,hc1,p48,hg,htk,hel,hst,q85⟩:=A5C hL (by omega) (fun s hs=>⟨by rw[IV hs];omega,fun x hx=>by rw[IV hs];exact hww x hx⟩) (by omega) (cc+1+1) (by omega);have g2:L'.get 2=some (0,.box (AC c)):=(hg 2 (by decide)).trans (by simp[wF]);have g8':L'.get 8=some (g8,.box (AG w)):=(hg 8 (by decide)).trans (by simp[wF]);have J3:L'.get 11=some (cc,.box [J2 l]):=(hg 11 (by decide)).trans (by simp[wF]);have g17:L'.get 17=none:=(hg 17 (by decide)).trans (by simp[wF]);have g18:L'.get 18=none:=(hg 18 (by decide)).trans (by simp[wF]);have g50:L'.get 50=none:=(hg 50 (by decide)).trans (by simp[wF]);have fY:L'.get 63=(pl 63 γ 3 (out.map BM)).get 63:=(hg 63 (by decide)).trans (by simp[wF]);rw[show(AR c).filter (DG l)=FA (AR c) l from rfl]at htk hel q85;unfold wF at q85;have hstv:∀t:St,1<=t.up.length->BU t (.vec 114 es)=.vec 114 es:=fun t ht=>by have h1:=congrArg (fun L=>AA.get L 48) (hst t ht);simp only[KC,p48,Option.map_some,cq.injEq,Prod.mk.injEq,true_and]at h1;exact h1
  have hLst:∀t:St,1<=t.up.length->AQ t ((2,0,.box (AC c))::(8,g8,.box (AG w))::(11,cc,.box [J2 l])::(48,cc+1,.vec 114 es)::pl 63 γ 3 (out.map BM))=((2,0,.box (AC c))::(8,g8,.box (AG w))::(11,cc,.box [J2 l])::(48,cc+1,.vec 114 es)::pl 63 γ 3 (out.map BM)):=fun t ht=>by rw[BJ,BJ,BJ,BJ,hstv t ht,lI];obtain⟨up,loc⟩:=t;simp[AC,AB,AM,AG,AL]
  have hkl:(AR c).length=((AR c).map AZ).length:=by simp
  have hd1:D4 (AR c) w k (c.wits.drop k)=if IC (AR c) w l=true then(k:Int)::D4 (AR c) w (k+1) (c.wits.drop (k+1)) else D4 (AR c) w (k+1) (c.wits.drop (k+1)):=by rw[bj hk,hlw];rfl
  rw[hd1];by_cases hF:FA (AR c) l=[]
  ·have hdb:IC (AR c) w l=false:=by simp[IC,hF]
   rw[hdb,if_neg (by decide)];obtain⟨c',γ',hc',ih⟩:=AKE c ok hne w hw g8 d (k+1) out c1 γ (by omega) (by omega) (by omega) (by omega);refine⟨c',γ',by omega,fun n m hm=>?_⟩;obtain⟨m,rfl⟩:=qNz m (by omega);have ih:=ih n m (by omega);rw[hF]at q85;rw[AD];rw[hkl]at q85;simp only[fU,AC,AG,J2,List.length_nil]at q86 q85 g2 g8' J3 ih|-;generalize D4 (AR c) w (k+1) (c.wits.drop (k+1))=R at ih|-;generalize (AR c).map AZ=KK at q86 q85 ih|-;try simp at ih
   simp[hk,hwk,hlw,AG,AL,AB,AM,q86,q85,g2,g8',J3,g17,g18,g50,fY,p48,AA.put,ih]
  ·have q66:=AKD c.book.lines.length (FA (AR c) l) w c1 (cc+1) es ((2,0,.box (AC c))::(8,g8,.box (AG w))::(11,cc,.box [J2 l])::(48,cc+1,.vec 114 es)::pl 63 γ 3 (out.map BM)) (by simp) htk hel (by have:=bz (fun s=>l.all (BI s)) (AR c);unfold FA;omega) hF (fun s hs=>IV (List.mem_filter.1 hs).1) (by omega) hw hLst;have hFl:0<(FA (AR c) l).length:=List.length_pos_iff.2 hF;by_cases h3:BO w (FA (AR c) l)=3
   ·have hdb:IC (AR c) w l=false:=by simp[IC,h3]
    rw[hdb,if_neg (by decide)];rw[h3]at q66;obtain⟨c',γ',hc',ih⟩:=AKE c ok hne w hw g8 d (k+1) out (c1+2) γ (by omega) (by omega) (by omega) (by omega);refine⟨c',γ',by omega,fun n m hm=>?_⟩;obtain⟨m,rfl⟩:=qNz m (by omega);have ih:=ih n m (by omega);rw[AD];rw[hkl]at q85;generalize FA (AR c) l=F at *;simp only[fU,AC,AG,J2]at q86 q85 q66 g2 g8' J3 ih|-;generalize D4 (AR c) w (k+1) (c.wits.drop (k+1))=R at ih|-;generalize (AR c).map AZ=KK at q86 q85 ih|-;try simp at ih
    simp[hk,hwk,hlw,hFl,AG,AL,AB,AM,q86,q85,q66,g2,g8',J3,g17,g18,g50,fY,p48,AA.put,ih]
   ·have hdb:IC (AR c) w l=true:=by simp[IC,h3,hF]
    rw[hdb,if_pos rfl];obtain⟨c',γ',hc',ih⟩:=AKE c ok hne w hw g8 d (k+1) (out++[(k:Int)]) (c1+2+1) (c1+2) (by omega) (by simp;omega) (by omega) (by omega);have happ:=vU (k:=out.length) (x:=(k:Int)) (by omega);refine⟨c',γ',by omega,fun n m hm=>?_⟩;obtain⟨m,rfl⟩:=qNz m (by omega);have ih:=ih n m (by omega);rw[AD];rw[hkl]at q85;generalize BO w (FA (AR c) l)=v at q66 h3;generalize FA (AR c) l=F at *;generalize D4 (AR c) w (k+1) (c.wits.drop (k+1))=R at ih|-;simp only[fU,AC,AG,J2,List.map_append,List.map_cons,List.map_nil,FJ,BM,bh,List.cons_append,List.nil_append]at q86 q85 q66 g2 g8' J3 fY ih|-;generalize (AR c).map AZ=KK at q86 q85 ih|-;try simp at ih
    simp[hk,hwk,hlw,hFl,h3,AG,AL,AB,AM,BM,q86,q85,q66,g2,g8',J3,g17,g18,g50,fY,p48,happ,P8,AA.put,ih]
def AEN(c:BC)(k:Int):V:=if DV c (D7 k 0 ((c.claims.length:Int)-1))=0 then .tup [sl ((FN (AR c) (c.claims.getD k.toNat bW) c.wits).map BM),i 0] else .tup [.nil,i (DV c (D7 k 0 ((c.claims.length:Int)-1)))]
theorem R5(n:Nat)(c:BC)(k:Int)(hc:c.claims.length<=4611686018427387904):AW cx kn (AH cx ann kn (n+11200)) 38 [.agg (AC c),i k]=some (AEN c k):=by
 rw[AO rfl,AP Tryz.func38 b38 rfl (by simp[AC,AB,AM,AG,AL])];obtain⟨ca,hca,q65⟩:=rR c (D7 k 0 ((c.claims.length:Int)-1)) [(2,0,.box (AC c))] (yU c 2) 1;have q77:=fun n=>AEK n c k hc;unfold AEN;unfold rQ at q65;by_cases he:DV c (D7 k 0 ((c.claims.length:Int)-1))=0
 ·obtain⟨ok,hin,hne⟩:=AC5 he;have hle:=WK ok;have h8:=ok.lines;rw[if_pos he]at q65|-;obtain⟨k,rfl⟩:∃j:Nat,k=j:=⟨k.toNat,by simp[D7]at hin;omega⟩;have hk:k<c.claims.length:=by simp[D7]at hin;omega
  rw[hin]at q77 q65;have hcw:=ok.cw _ (bw hk);have hg:c.claims.getD ((k:Int)).toNat bW=c.claims[k]:=by simp[List.getD_eq_getElem?_getD,hk]
  have hgk:(c.claims.map AG)[k]? = some (AG c.claims[k]):=by simp[hk]
  rw[hg];have qJ:=fun n=>vS n c.book.lines.length (AR c) c.claims[k] (by omega) hne (fun s hs=>IV hs) (by omega) hcw;have hcl7:=AKC 4 (AR c);have hcl8:=AKC 5 (AR c);obtain⟨c1,γ1,h1,r1⟩:=AKE c ok hne c.claims[k] hcw ca c.wits.length 0 [] (ca+1) 0 (by omega) (by simp) (by omega) (by omega);have r1:=r1 (n+290) (n+11190) (by have:=ok.wl;omega);generalize hw:c.claims[k]=w at *;unfold FN;simp only[ck,List.nil_append,List.map_nil,LD,HZ,Int.natCast_zero,AC,fU,AG,Nat.add_assoc,Nat.reduceAdd]at q65 q77 qJ r1 hgk hcl7 hcl8|-;have hJ:((D4 (AR c) w 0 c.wits).map BM).all (fun e=>e.all (AK 7))=true:=by simp[BM]
  by_cases h3:BO w (AR c)=3
  ·rw[if_pos h3];generalize (D4 (AR c) w 0 c.wits).map BM=JJ at r1 hJ|-;rw[h3]at qJ;generalize (AR c).map AZ=KK at q65 qJ r1 hcl7 hcl8;try simp at r1
   simp[c38,AJ,q77,q65,qJ,hk,hw,hcl7,hcl8,AB,AM,AG,AL];simp[r1];try exact fun x hx v hv=>bx.1 (bx.1 hJ x hx) v hv
  ·rw[if_neg h3];generalize BO w (AR c)=v at qJ h3;generalize (AR c).map AZ=KK at q65 qJ hcl7 hcl8;simp[c38,AJ,q77,q65,qJ,hk,hw,h3,hcl7,hcl8,AB,AM,AG,AL];rfl
 ·rw[if_neg he]at q65|-;have hd:decide (DV c (D7 k 0 ((c.claims.length:Int)-1))=0)=false:=by simpa using he
  generalize D7 k 0 ((c.claims.length:Int)-1)=z at *;simp only[AC]at q65 q77|-;generalize DV c z=A at q65 hd he;simp[c38,AJ,q77,q65,hd,he,AB,AM,AG,AL]
end Go.Proofs.Tryz.Op
