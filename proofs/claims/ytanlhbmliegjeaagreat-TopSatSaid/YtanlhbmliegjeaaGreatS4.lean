/- Contracts: IndexFunc, ContainsFunc, all over a row of groups that lies in a level below. No condition. -/
import Derived.Test.YtanlhbmliegjeaaGreatA2
import Derived.Test.YtanlhbmliegjeaaGreatS2
open Go.Proofs.Tryz renaming prog->cq,func114->cw,underlying129->cx
open List renaming getElem?_eq_getElem->bj,getD_eq_getElem?_getD->bk,getElem_mem->bq,map_cons->bw,append_assoc->bx,map_append->bz,mem_cons_of_mem->bb,getElem?_append_left->bc,getElem?_eq_some_iff->bf,length_append->bg,mem_cons->bm,getElem?_eq_none->bn,nodup_cons->bp,map->ck
open Option renaming getD_some->bh
set_option maxRecDepth 100000
set_option linter.unusedSimpArgs false
open Go Go.Pg Go.Proofs Go.Wind
namespace Go.Proofs.Tryz.Op
def vT(U:List AA)(K:Nat)(f:FuncId)(cap:List V)(p:Sp->Bool)(xs:List Sp)(c0:Nat):Prop:=∀c x,c0<=c->x∈xs->∃c',c<=c'/\∀n fr,GH (BH cq ann kn (n+K)) (some 16) ⟨c,fr,⟨U,[]⟩⟩ f (.agg (AO x)::cap)=some ⟨c',(16,true,.bool (p x))::fr,⟨U,[]⟩⟩
structure nK(U:List AA)(q γ:Nat)(xs:List Sp)(es:List (List V)):Prop where
 lv:∃L,U[q]? = some L/\L.get 921=some (γ,.vec 129 es)
 ln:xs.length<=es.length
 el:∀k (h:k<xs.length) (h2:k<es.length),es[k]=AO xs[k]
theorem vU(K:Nat)(U:List AA)(f:FuncId)(cap:List V)(hcw:cap.map weakV=cap)(p:Sp->Bool)(xs:List Sp)(q γ:Nat)(es:List (List V))(hr:nK U q γ xs es)(c0:Nat)(hp:vT U K f cap p xs c0)(hl:xs.length<=1000):∀(d k c:Nat),k+d=xs.length->c0<=c ->
  ∃(c':Nat) (j:Int),c<=c'/\0<=j/\∀n m,d<m->BG (AE cq ann kn (n+K+50) 19) MH (ann 19 (BX MH)) m ⟨c,[(0,true,.vec q 921 γ xs.length),(1,true,.fn f [] cap),(7,true,i xs.length),(8,true,i k)],⟨U,[]⟩⟩ =
   bif (xs.drop k).any p then some (.ret,⟨c',[(4,true,i j),(17,true,i j),(5,true,i j)],⟨U,[]⟩⟩)
   else some (.exit 0,⟨c',[(9,true,.bool false),(0,true,.vec q 921 γ xs.length),(1,true,.fn f [] cap),(7,true,i xs.length),(8,true,i xs.length)],⟨U,[]⟩⟩)
 |0,k,c,hd,hc0=>by
  have:k=xs.length:=by omega
  subst this;refine⟨c,0,Nat.le_refl _,by omega,fun n m hm=>?_⟩;obtain⟨m,rfl⟩:=qNz m (by omega);simp[AC]
 |d+1,k,c,hd,hc0=>by
  have hk:k<xs.length:=by omega
  have hw:=BS (k:=k) (by omega);have nrm:∀n a:Nat,n+K+a=(n+a)+K:=fun n a=>by omega
  obtain⟨L,hU,hL⟩:=hr.lv;have hln:=hr.ln;have hke:k<es.length:=by omega
  have hel:=hr.el k hk hke;have hq:¬q=U.length:=fun e=>by rw[e]at hU;simp at hU
  rw[List.drop_eq_getElem_cons hk,List.any_cons];obtain⟨c1,hc1,qq⟩:=hp c xs[k] hc0 (bq hk);have qq:=fun n=>qq (n+43) [(15,true,.agg (AO xs[k])),(14,true,.eptr q 921 γ k 0),(13,true,i k),(12,true,.vec q 921 γ xs.length),(11,true,.fn f [] cap),(0,true,.vec q 921 γ xs.length),(1,true,.fn f [] cap),(5,true,i k),(7,true,i xs.length),(8,true,i k)];simp only[<-nrm]at qq;generalize e:p xs[k]=b at qq;cases b with
  |true=>
   refine⟨c1,k,hc1,by omega,fun n m hm=>?_⟩
   obtain⟨m,rfl⟩:=qNz m (by omega)
   have qq:=qq n
   rw[AC]
   try simp only[AO]at qq hel
   try simp at qq
   simp[hk,hw,AO,qq,hcw,hU,hL,hke,hel,hq,hln]
  |false=>
   obtain⟨c',j,h1,h2,ih⟩:=vU K U f cap hcw p xs q γ es hr c0 hp hl d (k+1) c1 (by omega) (by omega)
   refine⟨c',j,by omega,h2,fun n m hm=>?_⟩
   obtain⟨m,rfl⟩:=qNz m (by omega)
   have qq:=qq n
   have ih:=ih n m (by omega)
   rw[AC]
   try simp only[AO]at qq ih hel
   try simp at qq
   simp at ih
   simp[hk,hw,AO,qq,ih,hcw,hU,hL,hke,hel,hq,hln]
def StU(U:List AA):Prop:=∀t:St,U.length<=t.up.length->U.map (AJ t)=U
theorem AJD(K:Nat)(U:List AA)(loc:AA)(f:FuncId)(cap:List V)(hcw:cap.map weakV=cap)(hco:cap.all (AG 8)=false)(p:Sp->Bool)(xs:List Sp)(q γ:Nat)(es:List (List V))(hr:nK (U++[loc]) q γ xs es)(c0:Nat)(hp:vT (U++[loc]) K f cap p xs c0)(hl:xs.length<=40)(hsh:StU (U++[loc]))(c:Nat)(hc0:c0<=c) :
  ∃(c':Nat) (j:Int),c<=c'/\decide (0<=j)=xs.any p/\∀n dd fr,GH (BH cq ann kn (n+K+100)) (some dd) ⟨c,fr,⟨U,loc⟩⟩ 114 [.vec q 921 γ xs.length,.fn f [] cap]=some ⟨c',(dd,true,i j)::fr,⟨U,loc⟩⟩:=by
 obtain⟨c1,j,h1,h2,qq⟩:=vU K (U++[loc]) f cap hcw p xs q γ es hr c0 hp (by omega) xs.length 0 c (by omega) hc0
 have qq:=fun n=>qq (n+45) (n+K+95) (by omega)
 have e:∀n,n+45+K+50=n+K+95:=fun n=>by omega
 simp only[e]at qq
 have hcl:([V.vec q 921 γ xs.length,V.fn f [] cap]).all (AG 9)=false:=by simp[hco]
 have hs:=hsh ⟨U++[loc],[]⟩ (by simp)
 simp at hs
 simp only[List.drop_zero]at qq
 generalize e:xs.any p=b at qq
 cases b with
 |true=>
  refine⟨c1,j,h1,by simpa using h2,fun n dd fr=>?_⟩
  rw[A3 cw b114 rfl hcl]
  simp at qq
  simp[xJ,AD,qq,hs]
 |false=>
  refine⟨c1,-1,h1,by simp,fun n dd fr=>?_⟩
  rw[A3 cw b114 rfl hcl]
  simp at qq
  simp[xJ,AD,qq,hs]
theorem A2I(K:Nat)(U:List AA)(loc:AA)(f:FuncId)(cap:List V)(hcw:cap.map weakV=cap)(hco:cap.all (AG 8)=false)(p:Sp->Bool)(xs:List Sp)(q γ:Nat)(es:List (List V))(hr:nK (U++[loc]) q γ xs es)(c0:Nat)(hp:vT (U++[loc]++[[]]) K f cap p xs c0)(hl:xs.length<=40)(hsh:StU (U++[loc]))(c:Nat)(hc0:c0<=c) :
  ∃c':Nat,c<=c'/\∀n dd fr,GH (BH cq ann kn (n+K+200)) (some dd) ⟨c,fr,⟨U,loc⟩⟩ 104 [.vec q 921 γ xs.length,.fn f [] cap]=some ⟨c',(dd,true,.bool (xs.any p))::fr,⟨U,loc⟩⟩:=by
 have hcl:([V.vec q 921 γ xs.length,V.fn f [] cap]).all (AG 9)=false:=by simp[hco]
 have hsh2:StU (U++[loc]++[[]]):=fun t h=>by have:=hsh t (by simp at h|-;omega);rw[bz,this];rfl
 have hr2:nK (U++[loc]++[[]]) q γ xs es:=by obtain⟨⟨L,h1,h2⟩,h3,h4⟩:=hr;exact⟨⟨L,by rw[bc];exact h1;exact(bf.1 h1).1,h2⟩,h3,h4⟩
 obtain⟨c1,j,h1,h2,qq⟩:=AJD K (U++[loc]) [] f cap hcw hco p xs q γ es hr2 c0 hp hl hsh2 c hc0
 refine⟨c1,h1,fun n dd fr=>?_⟩
 have qq:=qq (n+97) 7 [(6,true,.fn f [] cap),(5,true,.vec q 921 γ xs.length),(0,true,.vec q 921 γ xs.length),(1,true,.fn f [] cap)]
 have e:n+97+K+100=n+K+197:=by omega
 rw[e]at qq
 have hs:=hsh ⟨U++[loc],[]⟩ (by simp)
 simp at hs
 rw[A3 Tryz.func104 b104 rfl hcl]
 simp[AHR,AD,hcw,qq,h2,hs]
theorem A2J(K:Nat)(U:List AA)(loc:AA)(f:FuncId)(cap:List V)(hcw:cap.map weakV=cap)(hco:cap.all (AG 8)=false)(p:Sp->Bool)(xs:List Sp)(q γ:Nat)(es:List (List V))(hr:nK (U++[loc]) q γ xs es)(hl:xs.length<=40)(hsh:StU (U++[loc]))(c:Nat)(hcap:∀t:St,U.length+1<=t.up.length->AJ t [(3,c,AX.box [V.fn f [] cap])]=[(3,c,AX.box [V.fn f [] cap])])
  (hp:∀c1 γ x,c<c1->x∈xs->∃c',c1<=c'/\∀n fr,GH (BH cq ann kn (n+K)) (some 6) ⟨c1,fr,⟨U++[loc]++[[(3,c,AX.box [V.fn f [] cap])]]++[[]]++[[]],[(2,γ,.box (AO x))]⟩⟩ f (.agg (AO x)::cap)=some ⟨c',(6,true,.bool (p x))::fr,⟨U++[loc]++[[(3,c,AX.box [V.fn f [] cap])]]++[[]]++[[]],[(2,γ,.box (AO x))]⟩⟩) :
  ∃c':Nat,c<=c'/\∀n dd fr,GH (BH cq ann kn (n+K+300)) (some dd) ⟨c,fr,⟨U,loc⟩⟩ 80 [.vec q 921 γ xs.length,.fn f [] cap]=some ⟨c',(dd,true,.bool (xs.all p))::fr,⟨U,loc⟩⟩:=by
 have hcl:([V.vec q 921 γ xs.length,V.fn f [] cap]).all (AG 9)=false:=by simp[hco]
 have hp2:vT (U++[loc]++[[(3,c,AX.box [V.fn f [] cap])]]++[[]]) (K+20) 105 [.ptr (U.length+1) 3 c 0] (fun x=>!p x) xs (c+1):=by
  intro c1 x hc0 hx;obtain⟨c',h2,qq⟩:=hp (c1+1) c1 x (by omega) hx;refine⟨c',by omega,fun n fr=>?_⟩;have qq:=qq (n+17) [(5,true,.agg (AO x)),(4,true,.fn f [] cap),(0,true,.agg (AO x)),(1,true,.ptr (U.length+1) 3 c 0),(2,true,.ptr (U.length+4) 2 c1 0)];have e:n+17+K=n+K+17:=by omega
  rw[e]at qq;rw[show n+(K+20)=n+K+20 from by omega,A3 Tryz.func105 b105 rfl (by simp)];generalize hB:[(3,c,AX.box [V.fn f [] cap])]=B at qq hcap;have hB1:AA.get B 3=some (c,.box [.fn f [] cap]):=by rw[<-hB];rfl
  have hg:(U++[loc]++[B]++[[]])[U.length+1]? = some B:=by simp only[bx];rw[List.getElem?_append_right (by omega)];simp
  have hs1:∀t:St,U.length+1<=t.up.length->ck (AJ t) U=U/\AJ t loc=loc:=fun t h=>by have:=hsh t (by simpa using h);simpa using this
  have hu:∀(l:List AA) a b,CM (l++[a,b,[],[]])=some (l++[a,b,[]],[]):=fun l a b=>by have:=C9 ([]:AA) (l++[a,b,[]]);rwa [bx]at this
  simp only[bx,List.cons_append,List.nil_append,AO]at qq hg|-;simp[hu,APF,AD,hcw,qq,hg,hB1,(hs1 _ _).1,(hs1 _ _).2,hcap]
 have hsh2:StU (U++[loc]++[[(3,c,AX.box [V.fn f [] cap])]]):=fun t h=>by
  have h':U.length+1<=t.up.length:=by simp at h;omega
  have:=hsh t (by simpa using h');rw[bz,this];simp only[bw,List.map_nil,hcap t h']
 have hr2:nK (U++[loc]++[[(3,c,AX.box [V.fn f [] cap])]]) q γ xs es:=by obtain⟨⟨L,h1,h2⟩,h3,h4⟩:=hr;exact⟨⟨L,by rw[bc];exact h1;exact(bf.1 h1).1,h2⟩,h3,h4⟩
 obtain⟨c',h1,qq⟩:=A2I (K+20) (U++[loc]) [(3,c,AX.box [V.fn f [] cap])] 105 [.ptr (U.length+1) 3 c 0] (by simp) (by simp) (fun x=>!p x) xs q γ es hr2 (c+1) hp2 hl hsh2 (c+1) (Nat.le_refl _)
 refine⟨c',by omega,fun n dd fr=>?_⟩
 have qq:=qq (n+77) 7 [(6,true,.fn 105 [] [.ptr (U.length+1) 3 c 0]),(5,true,.vec q 921 γ xs.length),(0,true,.vec q 921 γ xs.length),(1,true,.fn f [] cap),(3,true,.ptr (U.length+1) 3 c 0)]
 have e:n+77+(K+20)+200=n+K+297:=by omega
 rw[e]at qq
 have hs1:∀t:St,U.length+1<=t.up.length->ck (AJ t) U=U/\AJ t loc=loc:=fun t h=>by have:=hsh t (by simpa using h);simpa using this
 have hny:(!(xs.any fun x=>!p x))=xs.all p:=by rw[List.not_any_eq_all_not];simp
 rw[A3 Tryz.func80 b80 rfl hcl,<-hny]
 try simp only[bg,List.length_cons,List.length_nil]at qq|-
 simp[c80,AD,hcw,qq,(hs1 _ _).1,(hs1 _ _).2]
def okX(x:Sp):Prop:=NB (x.fam:Int)/\NB x.size/\NB x.row/\NB x.place
def CQ(s:CD):List V:=[i s.sun,i s.carried,.bool s.enough]
def H5(p:Sp×CD):V×V:=(.agg (AO p.1),.agg (CQ p.2))
theorem kI5(d:Nat){n:Int}(h:NB n):Program.keyLits cq (d+1) 3 [.int .i64 n]=some [.int .i64 n]:=by unfold Program.keyLits;simp[Tryz.underlying3,wfI h]
theorem kGr(d:Nat){a b:Int}(ha:NB a)(hb:NB b):Program.keyLits cq (d+2) 127 [.int .i64 a,.int .i64 b]=some [.int .i64 a,.int .i64 b]:=by unfold Program.keyLits;simp[Tryz.underlying127,kI5 d ha,kI5 d hb]
theorem kWS(d:Nat){a b:Int}(ha:NB a)(hb:NB b):Program.keyLits cq (d+2) 87 [.int .i64 a,.int .i64 b]=some [.int .i64 a,.int .i64 b]:=by unfold Program.keyLits;simp[Tryz.underlying87,kI5 d ha,kI5 d hb]
theorem kSS(d:Nat){a b c e:Int}(ha:NB a)(hb:NB b)(hc:NB c)(he:NB e):(Program.keyLits cq (d+3) 129 [.int .i64 a,.int .i64 b,.int .i64 c,.int .i64 e]).isSome=true:=by unfold Program.keyLits;simp[cx,kGr d ha hb,kWS d hc he]
theorem ARG:cq.types.size+1=(cq.types.size-2)+3:=by have:2<=cq.types.size:=of_decide_eq_true (by kernel_rfl);omega
theorem AM4:xS cq 129=true:=by kernel_rfl
theorem ARH:cq.keyType 129=true:=by kernel_rfl
theorem AEO(x:Sp)(h:okX x):V3 cq 129 (.agg (AO x))=some (AO x):=by
 obtain⟨h1,h2,h3,h4⟩:=h;have q:=kSS (cq.types.size-2) h1 h2 h3 h4;rw[<-ARG]at q;have hf:(Value.agg #[.int .i64 (x.fam:Int),.int .i64 x.size,.int .i64 x.row,.int .i64 x.place]).formed cq 129=true:=by unfold Value.formed;simp[cx]
 have hko:(keyOf cq 129 (.agg #[.int .i64 (x.fam:Int),.int .i64 x.size,.int .i64 x.row,.int .i64 x.place])).isSome=true:=by unfold keyOf;rw[cx];simp only;rw[if_pos (by rw[ARH,hf];rfl),Option.isSome_map];exact q
 have hp:EA (AO x)=some [.int .i64 (x.fam:Int),.int .i64 x.size,.int .i64 x.row,.int .i64 x.place]:=rfl;unfold V3;simp only[hp];rw[if_pos hko]
theorem eO(x:Sp):AO x=[(x.fam:Int),x.size,x.row,x.place].map i:=rfl
theorem nL:∀(x y:List Int),x.length=y.length->eqC (x.map i) (y.map i)=some (x==y)
 |[],[],_=>rfl
 |a::x,b::y,h=>by have ih:=nL x y (by simpa using h);simp only[bw];show(if IntKind.i64=IntKind.i64 then(match eqC (x.map i) (y.map i)with|some r=>some ((a==b)&&r)|none=>none) else none)=_;rw[if_pos rfl,ih];rfl
theorem A2K(x y:Sp):eqC (AO x) (AO y)=some (decide (x=y)):=by
 rw[eO x,eO y,nL [(x.fam:Int),x.size,x.row,x.place] [(y.fam:Int),y.size,y.row,y.place] rfl];congr 1;rw[Bool.eq_iff_iff];simp only[beq_iff_eq,decide_eq_true_eq,List.cons.injEq,and_true];constructor
 ·rintro ⟨h1,h2,h3,h4⟩;obtain⟨a,b,c,d⟩:=x;obtain⟨a',b',c',d'⟩:=y;simp only at h1 h2 h3 h4;have:a=a':=by omega
  subst this h2 h3 h4;rfl
 ·rintro rfl;exact⟨rfl,rfl,rfl,rfl⟩
def cL(m:Sp):List (Sp×CD)->Nat->List Nat
 |[],_=>[]
 |p::L,j=>if p.1=m then j::cL m L (j+1) else cL m L (j+1)
theorem iE(m:Sp):∀(L:List (Sp×CD)) (j:Nat),(∀p∈L,okX p.1)->NE cq 129 (AO m) (L.map H5) j=some (cL m L j)
 |[],_,_=>rfl
 |p::L,j,h=>by have ih:=iE m L (j+1) (fun q hq=>h q (by simp[hq]));simp only[bw,H5,NE,AEO p.1 (h p (by simp)),A2K p.1 m];have ih':NE cq 129 (AO m) (ck H5 L) (j+1)=some (cL m L (j+1)):=ih;rw[ih'];simp[cL]
def L8(m:Sp):List (Sp×CD)->Option CD
 |[]=>none
 |p::L=>if p.1=m then some p.2 else L8 m L
def OU(m:Sp)(b:CD):List (Sp×CD)->List (Sp×CD)
 |[]=>[(m,b)]
 |p::L=>if p.1=m then(m,b)::L else p::OU m b L
structure rZ(c:A0)(L:List (Sp×CD)):Prop where
 ok:∀p∈L,okX p.1
 nd:(L.map (·.1)).Nodup
 so:∀p∈L,p.2=B5 c (AY c) p.1
theorem eP{m:Sp}{s:CD}:∀{L:List (Sp×CD)},L8 m L=some s->(m,s)∈L
 |[],h=>by cases h
 |p::L,h=>by
  unfold L8 at h;split at h
  ·rename_i e;cases h;subst e;simp
  ·exact bb _ (eP h)
theorem SY{m:Sp}{b:CD}{q:Sp×CD}:∀{L:List (Sp×CD)},q∈OU m b L->q=(m,b)\/q∈L
 |[],h=>by simp only[OU,List.mem_singleton]at h;exact .inl h
 |p::L,h=>by
  unfold OU at h;split at h
  ·rcases bm.1 h with h|h
   ·exact .inl h
   ·exact .inr (bb _ h)
  ·rcases bm.1 h with rfl|h
   ·exact .inr (by simp)
   ·rcases SY h with h|h
    ·exact .inl h
    ·exact .inr (bb _ h)
theorem zO(m:Sp)(b:CD):∀L,∀q∈(OU m b L).map (·.1),q=m\/q∈L.map (·.1):=fun L q hq=>by
 obtain⟨p,hp,rfl⟩:=List.mem_map.1 hq;rcases SY hp with rfl|h
 ·exact .inl rfl
 ·exact .inr (List.mem_map_of_mem h)
theorem vV(m:Sp)(b:CD):∀{L:List (Sp×CD)},(L.map (·.1)).Nodup->((OU m b L).map (·.1)).Nodup
 |[],_=>by simp[OU]
 |p::L,h=>by
  have h2:=bp.1 h;have ih:=vV m b (L:=L) h2.2;unfold OU;split
  ·rename_i e;simp only[bw]at h|-;rwa [<-e]
  ·rename_i e;simp only[bw,bp];refine⟨fun hh=>?_,ih⟩;rcases zO m b L _ hh with h3|h3
   ·exact e h3
   ·exact h2.1 h3
theorem rZ.upd{c:A0}{m:Sp}{L:List (Sp×CD)}(h:rZ c L)(hm:okX m):rZ c (OU m (B5 c (AY c) m) L):=by
 refine⟨fun p hp=>?_,vV _ _ h.nd,fun p hp=>?_⟩
 ·rcases SY hp with rfl|hp
  ·exact hm
  ·exact h.ok p hp
 ·rcases SY hp with rfl|hp
  ·rfl
  ·exact h.so p hp
theorem PI(m:Sp):∀(L:List (Sp×CD)) (j:Nat),m∉L.map (·.1)->cL m L j=[]/\L8 m L=none/\∀b,OU m b L=L++[(m,b)]
 |[],j,_=>⟨rfl,rfl,fun _=>rfl⟩
 |p::L,j,h=>by simp only[bw,bm,not_or]at h;obtain⟨i1,i2,i3⟩:=PI m L (j+1) h.2;have hp:¬p.1=m:=fun hh=>h.1 hh.symm;exact⟨by simp[cL,hp,i1],by simp[L8,hp,i2],fun b=>by simp[OU,hp,i3]⟩
theorem UT(m:Sp):∀(L:List (Sp×CD)) (j:Nat),m∈L.map (·.1)->(L.map (·.1)).Nodup->∃k,cL m L j=[j+k]/\(∃b,L[k]? = some (m,b)/\L8 m L=some b)/\∀b,OU m b L=L.set k (m,b)
 |p::L,j,h,hn=>by
  simp only[bw,bp]at hn;by_cases hp:p.1=m
  ·refine⟨0,?_,⟨p.2,?_,?_⟩,fun b=>?_⟩
   ·simp[cL,hp,(PI m L (j+1) (by rw[<-hp];exact hn.1)).1]
   ·simp[<-hp]
   ·simp[L8,hp]
   ·simp[OU,hp]
  ·simp only[bw,bm]at h;obtain⟨k,i1,⟨b,i2,i3⟩,i4⟩:=UT m L (j+1) (h.resolve_left fun hh=>hp hh.symm) hn.2;refine⟨k+1,?_,⟨b,?_,?_⟩,fun b=>?_⟩
   ·simp[cL,hp,i1];omega
   ·simpa using i2
   ·simp[L8,hp,i3]
   ·simp[OU,hp,i4]
theorem AEP(s:St)(x:Sp):BV s (.agg (AO x))=some (.agg (AO x)):=rfl
theorem AEQ(s:St)(x:CD):BV s (.agg (CQ x))=some (.agg (CQ x)):=rfl
theorem AJE(s:St)(L:List (Sp×CD)):CC s (.map (L.map H5))=.map (L.map H5):=by
 have:CA s (.map (L.map H5))=some (.map (L.map H5)):=by unfold CA;simp only;rw[NA];intro x hx;simp only[List.mem_map]at hx;obtain⟨p,hp,rfl⟩:=hx;simp only[H5,AEP,AEQ]
 unfold CC;rw[this]
theorem AM5:ACT cq 111=some (129,74):=by kernel_rfl
theorem AJF:TZ cq 74=some (.agg [i 0,i 0,.bool false]):=by kernel_rfl
theorem A2L{s:St}{l q g:Nat}{c:A0}{L:List (Sp×CD)}{m:Sp}(hs:s.get l q=some (g,.map (L.map H5)))(hL:rZ c L)(hm:okX m) :
  DP cq s 111 (.mp l q g) (.agg (AO m)) true=some (.tup [.agg (CQ ((L8 m L).getD ⟨0,0,false⟩)),.bool (L8 m L).isSome]):=by
 unfold DP
 simp only[AM5,hs,AM4,AEO m hm,iE m L 0 hL.ok,and_self,if_true]
 by_cases h:m∈L.map (·.1)
 ·obtain⟨k,i1,⟨b,i2,i3⟩,_⟩:=UT m L 0 h hL.nd;simp[i1,i2,i3,H5]
 ·obtain⟨i1,i2,_⟩:=PI m L 0 h;simp[i1,i2,AJF,CQ]
theorem BDC{s:St}{l q g:Nat}{c:A0}{L:List (Sp×CD)}{m:Sp}{b:CD}(hs:s.get l q=some (g,.map (L.map H5)))(hL:rZ c L)(hm:okX m) :
  LU cq s 111 (.mp l q g) (.agg (AO m)) (.agg (CQ b))=some (l,q,g,(OU m b L).map H5):=by
 unfold LU
 simp only[AM5,hs,AM4,AEO m hm,iE m L 0 hL.ok,and_self,if_true]
 by_cases h:m∈L.map (·.1)
 ·obtain⟨k,i1,_,i4⟩:=UT m L 0 h hL.nd;simp[i1,i4,H5]
 ·obtain⟨i1,_,i4⟩:=PI m L 0 h;simp[i1,i4,H5]
end Go.Proofs.Tryz.Op
namespace Go.Wind
def oS(c:A0)(sure:List (List Int))(x:Sp)(k:Nat):CD :=
 ⟨BZ (fun p=>GI sure x.row (x.place+(p:Int))) k,BZ (fun p=>if Q9 c x.row (x.place+(p:Int))=true then 0 else 1) k,(List.range k).all fun p=>decide ((GO c x.fam).good<=GI sure x.row (x.place+(p:Int)))⟩
theorem AJG(c:A0)(sure:List (List Int))(x:Sp):oS c sure x x.size.toNat=B5 c sure x:=rfl
theorem nM(c:A0)(sure:List (List Int))(x:Sp)(k:Nat):oS c sure x (k+1)=⟨(oS c sure x k).sun+GI sure x.row (x.place+(k:Int)),(oS c sure x k).carried+(if Q9 c x.row (x.place+(k:Int))=true then 0 else 1),(oS c sure x k).enough&&decide ((GO c x.fam).good<=GI sure x.row (x.place+(k:Int)))⟩:=by unfold oS;rw[List.range_succ,List.all_append];simp[BZ]
end Go.Wind
namespace Go.Proofs.Tryz.Op
theorem sA{c:A0}(hc:CJ c){f r p:Nat}{z:Int}:∀k,0<=(oS c (AY c) ⟨f,z,(r:Int),(p:Int)⟩ k).sun/\(oS c (AY c) ⟨f,z,(r:Int),(p:Int)⟩ k).sun<=5*k/\0<=(oS c (AY c) ⟨f,z,(r:Int),(p:Int)⟩ k).carried/\(oS c (AY c) ⟨f,z,(r:Int),(p:Int)⟩ k).carried<=k
 |0=>by simp[oS,BZ]
 |k+1=>by
  have ih:=sA hc (f:=f) (r:=r) (p:=p) (z:=z) k;rw[nM];have h1:0<=GI (AY c) (r:Int) ((p:Int)+(k:Int))/\GI (AY c) (r:Int) ((p:Int)+(k:Int))<=5:=by
   unfold GI;rw[bk,bk];by_cases hr:(r:Int).toNat<(AY c).length
   ·rw[bj hr];have:=jL hc _ (bq hr);by_cases hp:((p:Int)+(k:Int)).toNat<((AY c)[(r:Int).toNat]).length
    ·simp only[bh,bj hp];exact this.2 _ (bq hp)
    ·simp only[bh,bn (Nat.le_of_not_lt hp)];decide
   ·rw[bn (Nat.le_of_not_lt hr)];simp
  simp only at ih|-;split<;>omega
theorem A2M(c:A0)(hc:CJ c)(γ:Nat)(L:AA)(hL:L.get 911=some (γ+1,.box (D4 c γ)))(R:List AA)(g:Nat)(f r p:Nat)(z:Int)(hf:f<c.fams.length)(hz:0<=z/\z<=4)(hr:(r:Int)<c.beach.rows)(hp:(p:Int)+z<=c.beach.places)(B4:AX):∀(d k cc:Nat),k+d=z.toNat->g+2<cc->∃fr,BQ fr 0=some (true,.ptr 0 911 (γ+1) 0)/\BQ fr 3=some (true,.ptr (R.length+1) 3 g 0)/\BQ fr 4=some (true,.ptr (R.length+1) 4 (g+1) 0)/\BQ fr 5=some (true,.ptr (R.length+1) 5 (g+2) 0) /\
  ∀n m,d<m->BG (AE cq ann kn (n+400) 94) X5 (ann 94 (BX X5)) m ⟨cc,[(0,true,.ptr 0 911 (γ+1) 0),(3,true,.ptr (R.length+1) 3 g 0),(4,true,.ptr (R.length+1) 4 (g+1) 0),(5,true,.ptr (R.length+1) 5 (g+2) 0),(7,true,i ((p:Int)+(k:Int)))],⟨L::R,[(3,g,.box (AO ⟨f,z,(r:Int),(p:Int)⟩)),(4,g+1,B4),(5,g+2,.box (CQ (oS c (AY c) ⟨f,z,(r:Int),(p:Int)⟩ k)))]⟩⟩ =
   some (.exit 0,⟨cc,fr,⟨L::R,[(3,g,.box (AO ⟨f,z,(r:Int),(p:Int)⟩)),(4,g+1,B4),(5,g+2,.box (CQ (B5 c (AY c) ⟨f,z,(r:Int),(p:Int)⟩)))]⟩⟩)
 |0,k,cc,hd,hcc=>by
  obtain rfl:k=z.toNat:=by omega
  have hz2:(z.toNat:Int)=z:=by omega
  have hpl:=hc.be.pl;rw[<-AJG];have hzz:(⟨f,z,(r:Int),(p:Int)⟩:Sp).size.toNat=z.toNat:=rfl;rw[hzz];generalize oS c (AY c) ⟨f,z,(r:Int),(p:Int)⟩ z.toNat=S;rw[hz2];have w1:IntKind.i64.wrap ((p:Int)+z)=(p:Int)+z:=AW (by omega) (by omega);refine⟨?fr,?g1,?g2,?g3,?g4,fun n m hm=>?g9⟩;case g9=>
   obtain⟨m,rfl⟩:=qNz m (by omega)
   rw[AC]
   simp[AO,CQ,w1]
   rfl
  all_goals simp
 |d+1,k,cc,hd,hcc=>by
  have hpl:=hc.be.pl;have hro:=hc.be.ro;have w1:IntKind.i64.wrap ((p:Int)+z)=(p:Int)+z:=AW (by omega) (by omega);have w2:IntKind.i64.wrap ((p:Int)+(k:Int)+1)=(p:Int)+((k+1:Nat):Int):=by rw[AW (by omega) (by omega)];omega
  have hlt:(k:Int)<z:=by omega
  have hr5:r<(AY c).length:=by rw[wZ];omega
  have hrow:=jL hc _ (bq hr5);have hpk:p+k<((AY c)[r]).length:=by omega
  have hcr:r<c.chairs.length:=by have:=hc.ch;omega
  have hcl:=hc.cr _ (bq hcr);have hpc:p+k<(c.chairs[r]).length:=by omega
  have hb:=sA hc (f:=f) (r:=r) (p:=p) (z:=z) k;have hs1:GI (AY c) (r:Int) ((p:Int)+(k:Int))=((AY c)[r])[p+k]:=by
   have e:((p:Int)+(k:Int)).toNat=p+k:=by omega
   unfold GI;rw[bk,bk,Int.toNat_natCast,bj hr5,e];simp only[bh,bj hpk]
  have hc1:Q9 c (r:Int) ((p:Int)+(k:Int))=(c.chairs[r])[p+k]:=by
   have e:((p:Int)+(k:Int)).toNat=p+k:=by omega
   unfold Q9;rw[bk,bk,Int.toNat_natCast,bj hcr,e];simp only[bh,bj hpc]
  have hv:=hrow.2 _ (bq hpk);have hfm:GO c f=c.fams[f]:=by simp[GO,bj hf]
  obtain⟨fr,e0,e3,e4,e5,ih⟩:=A2M c hc γ L hL R g f r p z hf hz hr hp B4 d (k+1) cc (by omega) hcc;refine⟨fr,e0,e3,e4,e5,fun n m hm=>?_⟩;obtain⟨m,rfl⟩:=qNz m (by omega);have ih:=ih n m (by omega);rw[nM]at ih;simp only[hs1,hc1,hfm]at ih;generalize B5 c (AY c) ⟨f,z,(r:Int),(p:Int)⟩=FIN at *;generalize oS c (AY c) ⟨f,z,(r:Int),(p:Int)⟩ k=S at *;obtain⟨sn,cr,en⟩:=S;simp only at ih hb;have w3:IntKind.i64.wrap (sn+((AY c)[r])[p+k])=sn+((AY c)[r])[p+k]:=AW (by omega) (by omega);have w4:IntKind.i64.wrap (cr+1)=cr+1:=AW (by omega) (by omega);have hp0:(0:Int)<=(p:Int)+(k:Int):=by omega
  have hp1:(p:Int)+(k:Int)<5:=by omega
  have hp2:((p:Int)+(k:Int)).toNat=p+k:=by omega
  have hp3:(p:Int)+(k:Int)<((c.chairs[r]).length:Int):=by omega
  have hlen5:((AY c)[r]).length=5:=hrow.1;have hgo:=bj hpk;generalize ((AY c)[r])[p+k]=V at *;generalize hGD:decide ((c.fams[f]).good<=V)=G at ih;generalize hCH:(c.chairs[r])[p+k]=C at *;rw[AC];simp only[D4,AF]at hL;simp only[AO,CQ]at ih|-;cases en<;>cases G<;>cases C<;>(simp at ih;simp[hL,w1,w2,w3,w4,hlt,hr5,hcr,hf,hp0,hp1,hp2,hp3,hpk,hpc,hlen5,hGD,hCH,hgo,hcc,encA,AS,BD,AU,ED,A2,ih])
structure Lw(c:A0)(γ:Nat)(B L:AA):Prop where
 p0:∃T,rZ c T/\L.get 910=some (γ,.map (T.map H5))
 p1:L.get 911=some (γ+1,.box (D4 c γ))
 st:∀t:St,1<=t.up.length->AJ t L=L
 ot:∀k,¬k=910->L.get k=B.get k
theorem Lw.put{c:A0}{γ:Nat}{B L:AA}(h:Lw c γ B L){T:List (Sp×CD)}(h1:rZ c T):Lw c γ B ((910,γ,.map (T.map H5))::L) where
 p0:=⟨T,h1,by simp⟩
 p1:=by simpa using h.p1
 st:=fun t ht=>by rw[A6,h.st t ht,AJE t T]
 ot:=fun k h1=>by rw[<-h.ot k h1];simp[h1]
theorem AJH(c:A0)(hc:CJ c)(γ:Nat)(B:AA)(f r p:Nat)(z:Int)(hf:f<c.fams.length)(hz:0<=z/\z<=4)(hr:(r:Int)<c.beach.rows)(hp:(p:Int)+z<=c.beach.places)(L:AA)(hL:Lw c γ B L)(rs:List AA)(loc:AA)(hst:HC (rs++[loc]))(cc:Nat)(hcc:γ+1<cc) :
  ∃L' c',Lw c γ B L'/\cc<=c'/\∀n dd fr,GH (BH cq ann kn (n+600)) (some dd) ⟨cc,fr,⟨L::rs,loc⟩⟩ 79 [.ptr 0 911 (γ+1) 0,.agg (AO ⟨f,z,(r:Int),(p:Int)⟩)]=some ⟨c',(dd,true,.agg (CQ (B5 c (AY c) ⟨f,z,(r:Int),(p:Int)⟩)))::fr,⟨L'::rs,loc⟩⟩:=by
 obtain⟨T,a1,a2⟩:=hL.p0
 have p1:=hL.p1
 have hfl:=hc.fl
 have hro:=hc.be.ro
 have hpl:=hc.be.pl
 have hK:okX ⟨f,z,(r:Int),(p:Int)⟩:=⟨PQ (by simp only;omega),PQ (by simp only;omega),PQ (by simp only;omega),PQ (by simp only;omega)⟩
 have ql:∀(R:List AA) (lo:AA),DP cq ⟨L::R,lo⟩ 111 (.mp 0 910 γ) (.agg (AO ⟨f,z,(r:Int),(p:Int)⟩)) true=some (.tup [.agg (CQ ((L8 ⟨f,z,(r:Int),(p:Int)⟩ T).getD ⟨0,0,false⟩)),.bool (L8 ⟨f,z,(r:Int),(p:Int)⟩ T).isSome]):=fun R lo=>A2L (by simpa using a2) a1 hK
 have hs1:=fun t:St=>fun h=>hst t h
 have sL:=hL.st
 have hb3:Nat.beq 3 1=false:=rfl
 have hγ:γ<cc+3:=by omega
 cases hlk:L8 ⟨f,z,(r:Int),(p:Int)⟩ T with
 |some v=>
  rw[hlk]at ql
  have hv:=a1.so _ (eP hlk)
  simp only at hv
  subst hv
  refine⟨L,cc+3,hL,by omega,fun n dd fr=>?_⟩
  rw[A3 Tryz.func79 b79 rfl (by simp)]
  generalize B5 c (AY c) ⟨f,z,(r:Int),(p:Int)⟩=S at *
  simp only[D4,AF,AO,CQ]at p1 ql|-
  simp at ql
  simp[c79,AD,p1,ql,sL,hs1,ED,DB,CL,B8,BM,hb3]
 |none=>
  rw[hlk]at ql
  have hL':=hL.put (a1.upd hK)
  have qu:∀(R:List AA) (lo:AA),LU cq ⟨L::R,lo⟩ 111 (.mp 0 910 γ) (.agg (AO ⟨f,z,(r:Int),(p:Int)⟩)) (.agg (CQ (B5 c (AY c) ⟨f,z,(r:Int),(p:Int)⟩)))=some (0,910,γ,(OU ⟨f,z,(r:Int),(p:Int)⟩ (B5 c (AY c) ⟨f,z,(r:Int),(p:Int)⟩) T).map H5):=fun R lo=>BDC (by simpa using a2) a1 hK
  obtain⟨fr1,e0,e3,e4,e5,qq⟩:=A2M c hc γ L p1 (rs++[loc]) cc f r p z hf hz hr hp (.box [i 0,i 0,.bool false]) z.toNat 0 (cc+3) (by omega) (by omega)
  have qq:=fun n m=>qq n (m+100) (by omega)
  rw[show oS c (AY c) ⟨f,z,(r:Int),(p:Int)⟩ 0=⟨0,0,true⟩ from rfl]at qq
  have hsh:=fun t:St=>hL'.st t
  generalize (OU ⟨f,z,(r:Int),(p:Int)⟩ (B5 c (AY c) ⟨f,z,(r:Int),(p:Int)⟩) T).map H5=TT at qu hL' hsh
  refine⟨_,cc+3,hL',by omega,fun n dd fr=>?_⟩
  rw[A3 Tryz.func79 b79 rfl (by simp)]
  have hu1:=fun c fr s es=>AE2 (c:=c) (fr:=fr) (s:=s) 0 910 γ es
  generalize B5 c (AY c) ⟨f,z,(r:Int),(p:Int)⟩=S at *
  simp only[D4,AF,AO,CQ]at p1 ql qu qq|-
  simp at ql qq
  simp[c79,AD,p1,ql,qu,hu1,qq,e0,e3,e4,e5,sL,hsh,hs1,ED,DB,CL,B8,BM,hb3,hγ]
theorem cM(a z:Option V):orK false a z=z:=by cases a<;>rfl
theorem cN(d c:Nat)(fr:Fr)(s:St)(z:Option XS):oc2 d c fr s none z=z:=rfl
@[simp] theorem A2N:HS cq 79=false:=by kernel_rfl
theorem AER(rec:G5)(l k g o:Nat)(a:V):AZ cq kn rec 79 [.ptr l k g o,a]=none:=by rw[AP rfl];unfold KD;rw[show([V.ptr l k g o,a].all (AG 9))=false from rfl]
theorem cO(n:Nat)(d:Option Tmp)(x:Operand)(args:List Operand)(c:Nat)(fr:Fr)(s:St):P7 (BH cq ann kn n).cf (aC (AE cq ann kn n)) d x args ⟨c,fr,s⟩=ca1 (BH cq ann kn n) d ⟨c,fr,s⟩ (CH fr x) (FJ (CH fr) args):=bC d ⟨c,fr,s⟩ x args
def vW(c:A0)(x:Sp):Prop:=JJ c x=true/\x.fam<c.fams.length/\0<=x.size/\x.size<=4
theorem AES(c:A0)(hc:CJ c)(γ:Nat)(B:AA)(x:Sp)(hx:vW c x)(L:AA)(hL:Lw c γ B L)(rs:List AA)(loc:AA)(hst:HC (rs++[loc]))(cc:Nat)(hcc:γ+1<cc) :
  ∃L' c',Lw c γ B L'/\cc<=c'/\∀n dd fr,GH (BH cq ann kn (n+600)) (some dd) ⟨cc,fr,⟨L::rs,loc⟩⟩ 79 [.ptr 0 911 (γ+1) 0,.agg (AO x)]=some ⟨c',(dd,true,.agg (CQ (B5 c (AY c) x)))::fr,⟨L'::rs,loc⟩⟩:=by
 obtain⟨h1,h2,h3,h4⟩:=hx
 obtain⟨f,z,r,p⟩:=x
 obtain⟨g1,g2,g3,g4⟩:=fF h1
 simp only at g1 g2 g3 g4 h2 h3 h4
 obtain⟨r,rfl⟩:∃k:Nat,r=k:=⟨r.toNat,by omega⟩
 obtain⟨p,rfl⟩:∃k:Nat,p=k:=⟨p.toNat,by omega⟩
 exact AJH c hc γ B f r p z h2 ⟨h3,h4⟩ g2 g4 L hL rs loc hst cc hcc
theorem aV{c:A0}(hc:CJ c){x:Sp}(hx:vW c x):0<=(B5 c (AY c) x).sun/\(B5 c (AY c) x).sun<=20/\0<=(B5 c (AY c) x).carried/\(B5 c (AY c) x).carried<=4:=by obtain⟨h1,h2,h3,h4⟩:=hx;obtain⟨f,z,r,p⟩:=x;obtain⟨g1,g2,g3,g4⟩:=fF h1;simp only at g1 g2 g3 g4 h2 h3 h4;obtain⟨r,rfl⟩:∃k:Nat,r=k:=⟨r.toNat,by omega⟩;obtain⟨p,rfl⟩:∃k:Nat,p=k:=⟨p.toNat,by omega⟩;have:=sA hc (f:=f) (r:=r) (p:=p) (z:=z) z.toNat;rw[show B5 c (AY c) ⟨f,z,(r:Int),(p:Int)⟩=oS c (AY c) ⟨f,z,(r:Int),(p:Int)⟩ z.toNat from rfl];omega
theorem AET(c:A0)(s:List (List Int))(l:List Sp)(x:Sp):EY c s (l++[x])=⟨(EY c s l).sun+(B5 c s x).sun,(EY c s l).carried+(B5 c s x).carried,(EY c s l).enough&&(B5 c s x).enough⟩:=by unfold EY;rw[List.foldl_append];rfl
theorem AEU{c:A0}(hc:CJ c):∀{l:List Sp},(∀x∈l,vW c x)->0<=(EY c (AY c) l).sun/\(EY c (AY c) l).sun<=20*l.length/\0<=(EY c (AY c) l).carried/\(EY c (AY c) l).carried<=4*l.length:=fun {l} h=>by
 rw[oV];have h1:=fE (l:=l) (f:=fun x=>(B5 c (AY c) x).sun) (m:=20) fun x hx=>by have:=aV hc (h x hx);omega
 have h2:=fE (l:=l) (f:=fun x=>(B5 c (AY c) x).carried) (m:=4) fun x hx=>by have:=aV hc (h x hx);omega
 simp only;omega
def nN(RS:List AA)(l:List Sp)(v:V):Prop:=v=.list false (l.map AO)\/(v=.nil/\l=[])\/∃q γ es,v=.vec (q+1) 921 γ l.length/\nK RS q γ l es
theorem A2O(c:A0)(hc:CJ c)(γ:Nat)(B:AA)(l:List Sp)(hl:l.length<=10)(hx:∀x∈l,vW c x)(RS:List AA)(hst:HC RS)(v:V)(hv:nN RS l v)(g:Nat):∀(d k cc:Nat) (L:AA),k+d=l.length->Lw c γ B L->γ+1<cc->g<cc->∃fr L' c',BQ fr 4=some (true,.ptr (RS.length+1) 4 g 0)/\BQ fr 5=some (true,.ptr (RS.length+1) 5 (g+1) 0)/\Lw c γ B L'/\cc<=c' /\
  ∀n m,d<m->BG (AE cq ann kn (n+800) 38) X6 (ann 38 (BX X6)) m ⟨cc,[(0,true,.ptr 0 911 (γ+1) 0),(4,true,.ptr (RS.length+1) 4 g 0),(5,true,.ptr (RS.length+1) 5 (g+1) 0),(10,true,v),(11,true,i l.length),(12,true,i k)],⟨L::RS,[(4,g,.box [i 0,i 0,.bool false]),(5,g+1,.box (CQ (EY c (AY c) (l.take k))))]⟩⟩ =
   some (.exit 0,⟨c',fr,⟨L'::RS,[(4,g,.box [i 0,i 0,.bool false]),(5,g+1,.box (CQ (EY c (AY c) l)))]⟩⟩)
 |0,k,cc,L,hd,hL,hcc,hg=>by
  obtain rfl:k=l.length:=by omega
  rw[List.take_length];refine⟨?fr,L,cc,?g1,?g2,hL,Nat.le_refl _,fun n m hm=>?g9⟩;case g9=>
   obtain⟨m,rfl⟩:=qNz m (by omega)
   rw[AC]
   simp[CQ]
   rfl
  all_goals simp
 |d+1,k,cc,L,hd,hL,hcc,hg=>by
  have hk:k<l.length:=by omega
  have hw:=BS (k:=k) (by omega);have hxk:=hx _ (bq hk);obtain⟨L1,c1,r1,r2,r3⟩:=AES c hc γ B l[k] hxk L hL RS [(4,g,.box [i 0,i 0,.bool false]),(5,g+1,.box (CQ (EY c (AY c) (l.take k)))),(7,cc,.box (AO l[k]))] (J3 hst fun t _=>by simp[CQ,AO]) (cc+1) (by omega);obtain⟨fr,L',c',e4,e5,hL',hc',ih⟩:=A2O c hc γ B l hl hx RS hst v hv g d (k+1) (c1+1) L1 (by omega) r1 (by omega) (by omega);refine⟨fr,L',c',e4,e5,hL',by omega,fun n m hm=>?_⟩;obtain⟨m,rfl⟩:=qNz m (by omega);have ih:=ih n m (by omega);rw[List.take_succ_eq_append_getElem hk,AET]at ih;have hsl:=aV hc hxk;have hgc:g<c1:=by omega
  have htl:=AEU hc (l:=l.take k) fun x hx2=>hx x (List.mem_of_mem_take hx2);have htk:(l.take k).length<=10:=by rw[List.length_take];omega
  generalize EY c (AY c) (l.take k)=S at *;generalize EY c (AY c) l=F at *;generalize B5 c (AY c) l[k]=s at *;have w1:IntKind.i64.wrap (S.sun+s.sun)=S.sun+s.sun:=AW (by omega) (by omega);have w2:IntKind.i64.wrap (S.carried+s.carried)=S.carried+s.carried:=AW (by omega) (by omega);obtain⟨S1,S2,S3⟩:=S;rw[AC];simp only[AO,CQ]at r3 ih|-;simp only at w1 w2 ih;rcases hv with rfl|⟨_,rfl⟩|⟨q,γr,es,rfl,hr⟩
  ·cases S3<;>(simp at ih r3;simp[hk,hw,r3,AO,hgc,w1,w2,cM,cN,AER,cO,ED,A2,ih])
  ·simp at hk
  ·obtain⟨⟨Lq,hU,hLq⟩,hln,hel⟩:=hr;have hke:k<es.length:=by omega
   have hel:=hel k hk hke;have hq:¬q=RS.length:=fun e=>by rw[e]at hU;simp at hU
   cases S3<;>(simp at ih r3;simp[hk,hw,r3,hU,hLq,hln,hel,hke,hq,AO,hgc,w1,w2,cM,cN,AER,cO,ED,A2,ih])
theorem nN.len{RS:List AA}{l:List Sp}{v:V}(h:nN RS l v):v=.list false (l.map AO)\/(v=.nil/\l=[])\/∃q γ,v=.vec q 921 γ l.length:=by
 rcases h with h|h|⟨q,γ,es,h,_⟩
 ·exact .inl h
 ·exact .inr (.inl h)
 ·exact .inr (.inr ⟨_,_,h⟩)
theorem A2P(c:A0)(hc:CJ c)(γ:Nat)(B:AA)(l:List Sp)(hl:l.length<=10)(hx:∀x∈l,vW c x)(RS:List AA)(hst:HC RS)(v:V)(hv:nN RS l v)(L:AA)(hL:Lw c γ B L)(cc:Nat)(hcc:γ+1<cc):∃L' c',Lw c γ B L'/\cc<=c'/\∀n dd fr,iL cq (some dd) fr Tryz.f47.results.toList (AE cq ann kn (n+900) 38 c47 ⟨cc,AD 0 [.ptr 0 911 (γ+1) 0,v],⟨L::RS,[]⟩⟩)=bF (some dd) fr c' (.agg (CQ (EY c (AY c) l))) (CM (L'::RS)):=by
 obtain⟨fr1,L',c',e4,e5,hL',hc',qq⟩:=A2O c hc γ B l hl hx RS hst v hv cc l.length 0 (cc+2) L (by omega) hL (by omega) (by omega);have qq:=fun n m=>qq n (m+100) (by omega);rw[List.take_zero,show EY c (AY c) []=⟨0,0,true⟩ from rfl]at qq;have hcc2:cc<c':=by omega
 have sL:=hL'.st;have sR:∀(A:AA) (lo:AA),RS.map (AJ ⟨A::RS,lo⟩)=RS:=fun A lo=>hst _ (by simp);refine⟨L',c',hL',by omega,fun n dd fr=>?_⟩;generalize EY c (AY c) l=F at *;simp only[CQ]at qq|-;rcases hv.len with rfl|⟨rfl,rfl⟩|⟨q,γr,rfl⟩
 ·simp at qq;simp[c47,AD,qq,e4,e5,sL,sR,ED,A2,hcc2]
 ·simp at qq;simp[c47,AD,qq,e4,e5,sL,sR,ED,A2,hcc2]
 ·simp at qq;simp[c47,AD,qq,e4,e5,sL,sR,ED,A2,hcc2]
theorem at5(R:List AA)(a:AA)(Y:List AA):(R++a::Y)[R.length]? = some a:=by simp
theorem zQ(R:List AA)(a:AA)(Y:List AA)(f:AA->AA):(R++a::Y).modify R.length f=R++f a::Y:=by
 induction R with
 |nil=>rfl
 |cons x R ih=>simpa using ih
def zR(q:Nat)(Lq:AA)(o:List Sp)(v:V)(cc:Nat):Prop:=(v=.nil/\o=[])\/∃γ es,v=.vec q 921 γ o.length/\Lq.get 921=some (γ,.vec 129 es)/\o.length<=es.length/\(∀k (h:k<o.length) (h2:k<es.length),es[k]=AO o[k])/\(∀e∈es,e.length=4)/\γ<cc
theorem zR.more{q:Nat}{Lq:AA}{o:List Sp}{v:V}{cc c2:Nat}(h:zR q Lq o v cc)(hc:cc<=c2):zR q Lq o v c2:=by
 rcases h with h|⟨γ,es,h1,h2,h3,h4,h5,h6⟩
 ·exact .inl h
 ·exact .inr ⟨γ,es,h1,h2,h3,h4,h5,by omega⟩
theorem AEV(n K:Nat)(U:List AA)(loc:AA)(f:FuncId)(cap:List V)(hco:cap.all (AG 8)=false)(hsh:StU (U++[loc]))(c dd:Nat)(fr:Fr):GH (BH cq ann kn (n+K+100)) (some dd) ⟨c,fr,⟨U,loc⟩⟩ 114 [.nil,.fn f [] cap]=some ⟨c,(dd,true,i (-1))::fr,⟨U,loc⟩⟩:=by
 have hcl:([V.nil,V.fn f [] cap]).all (AG 9)=false:=by simp[hco]
 have hs:=hsh ⟨U++[loc],[]⟩ (by simp);simp at hs;rw[A3 cw b114 rfl hcl];simp[xJ,AD,AC,hs]
theorem ARI(n K:Nat)(U:List AA)(loc:AA)(f:FuncId)(cap:List V)(_:cap.map weakV=cap)(hco:cap.all (AG 8)=false)(hsh:StU (U++[loc]))(c dd:Nat)(fr:Fr):GH (BH cq ann kn (n+K+200)) (some dd) ⟨c,fr,⟨U,loc⟩⟩ 104 [.nil,.fn f [] cap]=some ⟨c,(dd,true,.bool false)::fr,⟨U,loc⟩⟩:=by
 have hcl:([V.nil,V.fn f [] cap]).all (AG 9)=false:=by simp[hco]
 have hsh2:StU (U++[loc]++[[]]):=fun t h=>by have:=hsh t (by simp at h|-;omega);rw[bz,this];rfl
 have qq:=AEV (n+97) K (U++[loc]) [] f cap hco hsh2 c 7 [(6,true,.fn f [] cap),(5,true,.nil),(0,true,.nil),(1,true,.fn f [] cap)];have e:n+97+K+100=n+K+197:=by omega
 rw[e]at qq;have hs:=hsh ⟨U++[loc],[]⟩ (by simp);simp at hs;rw[A3 Tryz.func104 b104 rfl hcl];simp[AHR,AD,qq,hs]
theorem ARJ(n K:Nat)(U:List AA)(loc:AA)(f:FuncId)(cap:List V)(hco:cap.all (AG 8)=false)(hsh:StU (U++[loc]))(c:Nat)(hcap:∀t:St,U.length+1<=t.up.length->AJ t [(3,c,AX.box [V.fn f [] cap])]=[(3,c,AX.box [V.fn f [] cap])])(dd:Nat)(fr:Fr):GH (BH cq ann kn (n+K+300)) (some dd) ⟨c,fr,⟨U,loc⟩⟩ 80 [.nil,.fn f [] cap]=some ⟨c+1,(dd,true,.bool true)::fr,⟨U,loc⟩⟩:=by
 have hcl:([V.nil,V.fn f [] cap]).all (AG 9)=false:=by simp[hco]
 have hsh2:StU (U++[loc]++[[(3,c,AX.box [V.fn f [] cap])]]):=fun t h=>by
  have h':U.length+1<=t.up.length:=by simp at h;omega
  have:=hsh t (by simpa using h');rw[bz,this];simp only[bw,List.map_nil,hcap t h']
 have qq:=ARI (n+77) (K+20) (U++[loc]) [(3,c,AX.box [V.fn f [] cap])] 105 [.ptr (U.length+1) 3 c 0] (by simp) (by simp) hsh2 (c+1) 7 [(6,true,.fn 105 [] [.ptr (U.length+1) 3 c 0]),(5,true,.nil),(0,true,.nil),(1,true,.fn f [] cap),(3,true,.ptr (U.length+1) 3 c 0)];have e:n+77+(K+20)+200=n+K+297:=by omega
 rw[e]at qq;have hs1:∀t:St,U.length+1<=t.up.length->ck (AJ t) U=U/\AJ t loc=loc:=fun t h=>by have:=hsh t (by simpa using h);simpa using this
 rw[A3 Tryz.func80 b80 rfl hcl];try simp only[bg,List.length_cons,List.length_nil]at qq|-
 simp[c80,AD,qq,(hs1 _ _).1,(hs1 _ _).2]
theorem aW{c:A0}(hc:CJ c){x:Sp}(hx:vW c x):x.fam<c.fams.length/\(0<=x.size/\x.size<=1000)/\-1000<=x.place/\x.place<=1000:=by obtain⟨h1,h2,h3,h4⟩:=hx;have hpl:=hc.be.pl;have:=fF h1;exact⟨h2,by omega,by omega,by omega⟩
theorem AJI(c:A0)(hc:CJ c)(γ:Nat)(B L:AA)(hL:Lw c γ B L)(x:Sp)(hx:vW c x)(o:List Sp)(ho:∀y∈o,vW c y)(hol:o.length<=10)(R:List AA)(Lq:AA)(Y:List AA)(v:V)(cc:Nat)(hv:zR (R.length+1) Lq o v cc)(loc:AA)(XM:Nat)(hloc:loc.get 10=some (XM,.box (AO x)))(hst:StU (L::(R++Lq::Y)++[loc])) :
  ∃c':Nat,cc<=c'/\∀n dd fr,GH (BH cq ann kn (n+900)) (some dd) ⟨cc,fr,⟨L::(R++Lq::Y),loc⟩⟩ 80 [v,.fn 81 [] [.ref [.ptr 0 911 (γ+1) 0],.ptr (R.length+Y.length+2) 10 XM 0]]=some ⟨c',(dd,true,.bool (o.all (FA c x)))::fr,⟨L::(R++Lq::Y),loc⟩⟩:=by
 have hUl:(L::(R++Lq::Y)).length=R.length+Y.length+2:=by simp;omega
 have hcap:∀t:St,(L::(R++Lq::Y)).length+1<=t.up.length->AJ t [(3,cc,AX.box [V.fn 81 [] [.ref [.ptr 0 911 (γ+1) 0],.ptr (R.length+Y.length+2) 10 XM 0]])]=[(3,cc,AX.box [V.fn 81 [] [.ref [.ptr 0 911 (γ+1) 0],.ptr (R.length+Y.length+2) 10 XM 0]])]:=fun t ht=>by
  rw[hUl]at ht;have e0:¬0=t.up.length:=by omega
  have e1:¬R.length+Y.length+2=t.up.length:=by omega
  obtain⟨up,lo⟩:=t;simp only at e0 e1;simp[e0,e1]
 rcases hv with⟨rfl,rfl⟩|⟨γr,es,rfl,v2,v3,v4,v5,v6⟩
 ·refine⟨cc+1,by omega,fun n dd fr=>?_⟩;have qq:=ARJ n 600 (L::(R++Lq::Y)) loc 81 [.ref [.ptr 0 911 (γ+1) 0],.ptr (R.length+Y.length+2) 10 XM 0] (by simp) hst cc hcap dd fr;rw[show n+600+300=n+900 by omega]at qq;exact qq
 ·have hr:nK (L :: (R++Lq :: Y)++[loc]) (R.length+1) γr o es:=⟨⟨Lq,by simp,v2⟩,v3,v4⟩;obtain⟨c',h1,qq⟩:=A2J 600 (L :: (R++Lq :: Y)) loc 81 [.ref [.ptr 0 911 (γ+1) 0],.ptr (R.length+Y.length+2) 10 XM 0] (by simp) (by simp) (FA c x) o (R.length+1) γr es hr (by omega) hst cc hcap (fun c1 g2 y hc1 hy=>by
   have y1:=aW hc (ho y hy);have x1:=aW hc hx;have qa:=fun n=>ABF n c x y x1.1 y1.1 x1.2.2 y1.2.2 x1.2.1 y1.2.1;have p1:=hL.p1;refine⟨c1+1,by omega,fun n fr=>?_⟩;rw[A3 Tryz.func81 b81 rfl (by simp)];generalize FA c x y=z at *;have hs:=fun t h=>hst t h;have hg:(L::(R++Lq::Y)++[loc]++[[(3,cc,AX.box [V.fn 81 [] [.ref [.ptr 0 911 (γ+1) 0],.ptr (R.length+Y.length+2) 10 XM 0]])]]++[[]]++[[]]++[[(2,g2,.box (AO y))]])[R.length+Y.length+2]? = some loc:=by rw[<-hUl];simp
   have hs1:∀t:St,(L::(R++Lq::Y)).length+1<=t.up.length->ck (AJ t) (L::(R++Lq::Y))=L::(R++Lq::Y)/\AJ t loc=loc:=fun t h=>by have:=hst t (by rw[bg,List.length_singleton];exact h);rw[bz]at this;have:=List.append_inj this (by simp);exact⟨this.1,by simpa using this.2⟩
   generalize hU:L::(R++Lq::Y)=U at *;have hU0:∀h:0<U.length,U[0]=L:=fun h=>by simp only[<-hU];rfl
   have hb12:Nat.beq 12 1=false:=rfl;have hu:∀(l:List AA) a b d,CM (l++[a,b,[],[],d])=some (l++[a,b,[],[]],d):=fun l a b d=>by have:=C9 (d:AA) (l++[a,b,[],[]]);rwa [bx]at this
   have hb4:Nat.beq 4 1=false:=rfl;generalize hB3:[(3,cc,AX.box [V.fn 81 [] [.ref [.ptr 0 911 (γ+1) 0],.ptr (R.length+Y.length+2) 10 XM 0]])]=B3 at *;simp only[D4,AF,AO]at p1 qa hloc hg |-;simp only[bx,List.cons_append,List.nil_append]at hg |-;simp[c81,AD,p1,hg,hU0,hu,hloc,hUl,qa,ED,B8,CL,BM,hb12,hb4,AS,BD,AU,(hs1 _ _).1,(hs1 _ _).2,hcap])
  exact⟨c',h1,fun n dd fr=>by
   have qq:=qq n dd fr;rwa [show n+600+300=n+900 by omega]at qq⟩
end Go.Proofs.Tryz.Op
