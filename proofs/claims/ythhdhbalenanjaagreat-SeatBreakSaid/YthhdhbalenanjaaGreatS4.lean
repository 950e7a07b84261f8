/- Contracts: IndexFunc, ContainsFunc, all over a row of groups that lies in a level below. No condition. -/
import Derived.Test.YthhdhbalenanjaaGreatA2
open Go.Proofs.Tryz renaming prog->cq,func189->cw,underlying153->cx
open List renaming getElem?_eq_getElem->bj,getD_eq_getElem?_getD->bk,getElem_mem->bq,map_cons->bw,append_assoc->bx,map_append->bz,mem_cons_of_mem->bb,getElem?_append_left->bc,getElem?_eq_some_iff->bf,length_append->bg,mem_cons->bm,getElem?_eq_none->bn,nodup_cons->bp,map->ck
open Option renaming getD_some->bh
set_option maxRecDepth 100000
set_option linter.unusedSimpArgs false
open Go Go.Pg Go.Proofs Go.Wind
namespace Go.Proofs.Tryz.Op
def vD(U:List AA)(K:Nat)(f:FuncId)(cap:List V)(p:Sp->Bool)(xs:List Sp)(c0:Nat):Prop:=∀c x,c0<=c->x∈xs->∃c',c<=c'/\∀n fr,G7 (BH cq ann kn (n+K)) (some 16) ⟨c,fr,⟨U,[]⟩⟩ f (.agg (A6 x)::cap)=some ⟨c',(16,true,.bool (p x))::fr,⟨U,[]⟩⟩
structure nA(U:List AA)(q γ:Nat)(xs:List Sp)(es:List (List V)):Prop where
 lv:∃L,U[q]? = some L/\L.get 921=some (γ,.vec 153 es)
 ln:xs.length<=es.length
 el:∀k (h:k<xs.length) (h2:k<es.length),es[k]=A6 xs[k]
theorem vE(K:Nat)(U:List AA)(f:FuncId)(cap:List V)(hcw:cap.map weakV=cap)(p:Sp->Bool)(xs:List Sp)(q γ:Nat)(es:List (List V))(hr:nA U q γ xs es)(c0:Nat)(hp:vD U K f cap p xs c0)(hl:xs.length<=1000):∀(d k c:Nat),k+d=xs.length->c0<=c ->
  ∃(c':Nat) (j:Int),c<=c'/\0<=j/\∀n m,d<m->BM (AF cq ann kn (n+K+50) 19) SE (ann 19 (CG SE)) m ⟨c,[(0,true,.vec q 921 γ xs.length),(1,true,.fn f [] cap),(7,true,i xs.length),(8,true,i k)],⟨U,[]⟩⟩ =
   bif (xs.drop k).any p then some (.ret,⟨c',[(4,true,i j),(17,true,i j),(5,true,i j)],⟨U,[]⟩⟩)
   else some (.exit 0,⟨c',[(9,true,.bool false),(0,true,.vec q 921 γ xs.length),(1,true,.fn f [] cap),(7,true,i xs.length),(8,true,i xs.length)],⟨U,[]⟩⟩)
 |0,k,c,hd,hc0=>by
  have:k=xs.length:=by omega
  subst this;refine⟨c,0,Nat.le_refl _,by omega,fun n m hm=>?_⟩;obtain⟨m,rfl⟩:=qNz m (by omega);simp[AB]
 |d+1,k,c,hd,hc0=>by
  have hk:k<xs.length:=by omega
  have hw:=B7 (k:=k) (by omega);have nrm:∀n a:Nat,n+K+a=(n+a)+K:=fun n a=>by omega
  obtain⟨L,hU,hL⟩:=hr.lv;have hln:=hr.ln;have hke:k<es.length:=by omega
  have hel:=hr.el k hk hke;have hq:¬q=U.length:=fun e=>by rw[e]at hU;simp at hU
  rw[List.drop_eq_getElem_cons hk,List.any_cons];obtain⟨c1,hc1,qq⟩:=hp c xs[k] hc0 (bq hk);have qq:=fun n=>qq (n+43) [(15,true,.agg (A6 xs[k])),(14,true,.eptr q 921 γ k 0),(13,true,i k),(12,true,.vec q 921 γ xs.length),(11,true,.fn f [] cap),(0,true,.vec q 921 γ xs.length),(1,true,.fn f [] cap),(5,true,i k),(7,true,i xs.length),(8,true,i k)];simp only[<-nrm]at qq;generalize e:p xs[k]=b at qq;cases b with
  |true=>
   refine⟨c1,k,hc1,by omega,fun n m hm=>?_⟩
   obtain⟨m,rfl⟩:=qNz m (by omega)
   have qq:=qq n
   rw[AB]
   try simp only[A6]at qq hel
   try simp at qq
   simp[hk,qq,hcw,hU,hL,hke,hel,hq,hln]
  |false=>
   obtain⟨c',j,h1,h2,ih⟩:=vE K U f cap hcw p xs q γ es hr c0 hp hl d (k+1) c1 (by omega) (by omega)
   refine⟨c',j,by omega,h2,fun n m hm=>?_⟩
   obtain⟨m,rfl⟩:=qNz m (by omega)
   have qq:=qq n
   have ih:=ih n m (by omega)
   rw[AB]
   try simp only[A6]at qq ih hel
   try simp at qq
   simp at ih
   simp[hk,hw,qq,ih,hcw,hU,hL,hke,hel,hq,hln]
def StU(U:List AA):Prop:=∀t:St,U.length<=t.up.length->U.map (AH t)=U
theorem AKG(K:Nat)(U:List AA)(loc:AA)(f:FuncId)(cap:List V)(hcw:cap.map weakV=cap)(hco:cap.all (AG 8)=false)(p:Sp->Bool)(xs:List Sp)(q γ:Nat)(es:List (List V))(hr:nA (U++[loc]) q γ xs es)(c0:Nat)(hp:vD (U++[loc]) K f cap p xs c0)(hl:xs.length<=40)(hsh:StU (U++[loc]))(c:Nat)(hc0:c0<=c) :
  ∃(c':Nat) (j:Int),c<=c'/\decide (0<=j)=xs.any p/\∀n dd fr,G7 (BH cq ann kn (n+K+100)) (some dd) ⟨c,fr,⟨U,loc⟩⟩ 189 [.vec q 921 γ xs.length,.fn f [] cap]=some ⟨c',(dd,true,i j)::fr,⟨U,loc⟩⟩:=by
 obtain⟨c1,j,h1,h2,qq⟩:=vE K (U++[loc]) f cap hcw p xs q γ es hr c0 hp (by omega) xs.length 0 c (by omega) hc0
 have qq:=fun n=>qq (n+45) (n+K+95) (by omega)
 have e:∀n,n+45+K+50=n+K+95:=fun n=>by omega
 simp only[e]at qq
 have hcl:([V.vec q 921 γ xs.length,V.fn f [] cap]).all (AG 9)=false:=by simp[hco]
 have hs:=hsh ⟨U++[loc],[]⟩ (by simp)
 simp at hs
 simp only[List.drop_zero]at qq
 generalize e:xs.any p=b at qq
 cases b with
 |true=>
  refine⟨c1,j,h1,by simpa using h2,fun n dd fr=>?_⟩
  rw[A2 cw b189 rfl hcl]
  simp at qq
  simp[AIO,AD,qq,hs]
 |false=>
  refine⟨c1,-1,h1,by simp,fun n dd fr=>?_⟩
  rw[A2 cw b189 rfl hcl]
  simp at qq
  simp[AIO,AD,qq,hs]
theorem A1Y(K:Nat)(U:List AA)(loc:AA)(f:FuncId)(cap:List V)(hcw:cap.map weakV=cap)(hco:cap.all (AG 8)=false)(p:Sp->Bool)(xs:List Sp)(q γ:Nat)(es:List (List V))(hr:nA (U++[loc]) q γ xs es)(c0:Nat)(hp:vD (U++[loc]++[[]]) K f cap p xs c0)(hl:xs.length<=40)(hsh:StU (U++[loc]))(c:Nat)(hc0:c0<=c) :
  ∃c':Nat,c<=c'/\∀n dd fr,G7 (BH cq ann kn (n+K+200)) (some dd) ⟨c,fr,⟨U,loc⟩⟩ 171 [.vec q 921 γ xs.length,.fn f [] cap]=some ⟨c',(dd,true,.bool (xs.any p))::fr,⟨U,loc⟩⟩:=by
 have hcl:([V.vec q 921 γ xs.length,V.fn f [] cap]).all (AG 9)=false:=by simp[hco]
 have hsh2:StU (U++[loc]++[[]]):=fun t h=>by have:=hsh t (by simp at h|-;omega);rw[bz,this];rfl
 have hr2:nA (U++[loc]++[[]]) q γ xs es:=by obtain⟨⟨L,h1,h2⟩,h3,h4⟩:=hr;exact⟨⟨L,by rw[bc];exact h1;exact(bf.1 h1).1,h2⟩,h3,h4⟩
 obtain⟨c1,j,h1,h2,qq⟩:=AKG K (U++[loc]) [] f cap hcw hco p xs q γ es hr2 c0 hp hl hsh2 c hc0
 refine⟨c1,h1,fun n dd fr=>?_⟩
 have qq:=qq (n+97) 7 [(6,true,.fn f [] cap),(5,true,.vec q 921 γ xs.length),(0,true,.vec q 921 γ xs.length),(1,true,.fn f [] cap)]
 have e:n+97+K+100=n+K+197:=by omega
 rw[e]at qq
 have hs:=hsh ⟨U++[loc],[]⟩ (by simp)
 simp at hs
 rw[A2 Tryz.func171 b171 rfl hcl]
 simp[AO3,AD,qq,h2,hs]
theorem A1Z(K:Nat)(U:List AA)(loc:AA)(f:FuncId)(cap:List V)(hcw:cap.map weakV=cap)(hco:cap.all (AG 8)=false)(p:Sp->Bool)(xs:List Sp)(q γ:Nat)(es:List (List V))(hr:nA (U++[loc]) q γ xs es)(hl:xs.length<=40)(hsh:StU (U++[loc]))(c:Nat)(hcap:∀t:St,U.length+1<=t.up.length->AH t [(3,c,AV.box [V.fn f [] cap])]=[(3,c,AV.box [V.fn f [] cap])])
  (hp:∀c1 γ x,c<c1->x∈xs->∃c',c1<=c'/\∀n fr,G7 (BH cq ann kn (n+K)) (some 6) ⟨c1,fr,⟨U++[loc]++[[(3,c,AV.box [V.fn f [] cap])]]++[[]]++[[]],[(2,γ,.box (A6 x))]⟩⟩ f (.agg (A6 x)::cap)=some ⟨c',(6,true,.bool (p x))::fr,⟨U++[loc]++[[(3,c,AV.box [V.fn f [] cap])]]++[[]]++[[]],[(2,γ,.box (A6 x))]⟩⟩) :
  ∃c':Nat,c<=c'/\∀n dd fr,G7 (BH cq ann kn (n+K+300)) (some dd) ⟨c,fr,⟨U,loc⟩⟩ 137 [.vec q 921 γ xs.length,.fn f [] cap]=some ⟨c',(dd,true,.bool (xs.all p))::fr,⟨U,loc⟩⟩:=by
 have hcl:([V.vec q 921 γ xs.length,V.fn f [] cap]).all (AG 9)=false:=by simp[hco]
 have hp2:vD (U++[loc]++[[(3,c,AV.box [V.fn f [] cap])]]++[[]]) (K+20) 172 [.ptr (U.length+1) 3 c 0] (fun x=>!p x) xs (c+1):=by
  intro c1 x hc0 hx;obtain⟨c',h2,qq⟩:=hp (c1+1) c1 x (by omega) hx;refine⟨c',by omega,fun n fr=>?_⟩;have qq:=qq (n+17) [(5,true,.agg (A6 x)),(4,true,.fn f [] cap),(0,true,.agg (A6 x)),(1,true,.ptr (U.length+1) 3 c 0),(2,true,.ptr (U.length+4) 2 c1 0)];have e:n+17+K=n+K+17:=by omega
  rw[e]at qq;rw[show n+(K+20)=n+K+20 from by omega,A2 Tryz.func172 b172 rfl (by simp)];generalize hB:[(3,c,AV.box [V.fn f [] cap])]=B at qq hcap;have hB1:AA.get B 3=some (c,.box [.fn f [] cap]):=by rw[<-hB];rfl
  have hg:(U++[loc]++[B]++[[]])[U.length+1]? = some B:=by simp only[bx];rw[List.getElem?_append_right (by omega)];simp
  have hs1:∀t:St,U.length+1<=t.up.length->ck (AH t) U=U/\AH t loc=loc:=fun t h=>by have:=hsh t (by simpa using h);simpa using this
  have hu:∀(l:List AA) a b,B9 (l++[a,b,[],[]])=some (l++[a,b,[]],[]):=fun l a b=>by have:=unsnoc_snoc ([]:AA) (l++[a,b,[]]);rwa [bx]at this
  simp only[bx,List.cons_append,List.nil_append,A6]at qq hg|-;simp[hu,AZ0,AD,hcw,qq,hB1,(hs1 _ _).1,(hs1 _ _).2,hcap]
 have hsh2:StU (U++[loc]++[[(3,c,AV.box [V.fn f [] cap])]]):=fun t h=>by
  have h':U.length+1<=t.up.length:=by simp at h;omega
  have:=hsh t (by simpa using h');rw[bz,this];simp only[bw,List.map_nil,hcap t h']
 have hr2:nA (U++[loc]++[[(3,c,AV.box [V.fn f [] cap])]]) q γ xs es:=by obtain⟨⟨L,h1,h2⟩,h3,h4⟩:=hr;exact⟨⟨L,by rw[bc];exact h1;exact(bf.1 h1).1,h2⟩,h3,h4⟩
 obtain⟨c',h1,qq⟩:=A1Y (K+20) (U++[loc]) [(3,c,AV.box [V.fn f [] cap])] 172 [.ptr (U.length+1) 3 c 0] (by simp) (by simp) (fun x=>!p x) xs q γ es hr2 (c+1) hp2 hl hsh2 (c+1) (Nat.le_refl _)
 refine⟨c',by omega,fun n dd fr=>?_⟩
 have qq:=qq (n+77) 7 [(6,true,.fn 172 [] [.ptr (U.length+1) 3 c 0]),(5,true,.vec q 921 γ xs.length),(0,true,.vec q 921 γ xs.length),(1,true,.fn f [] cap),(3,true,.ptr (U.length+1) 3 c 0)]
 have e:n+77+(K+20)+200=n+K+297:=by omega
 rw[e]at qq
 have hs1:∀t:St,U.length+1<=t.up.length->ck (AH t) U=U/\AH t loc=loc:=fun t h=>by have:=hsh t (by simpa using h);simpa using this
 have hny:(!(xs.any fun x=>!p x))=xs.all p:=by rw[List.not_any_eq_all_not];simp
 rw[A2 Tryz.func137 b137 rfl hcl,<-hny]
 try simp only[bg,List.length_cons,List.length_nil]at qq|-
 simp[AO4,AD,qq,(hs1 _ _).1,(hs1 _ _).2]
def okX(x:Sp):Prop:=GQ (x.fam:Int)/\GQ x.size/\GQ x.row/\GQ x.place
def BT(s:BJ):List V:=[i s.sun,i s.carried,.bool s.enough]
def GB(p:Sp×BJ):V×V:=(.agg (A6 p.1),.agg (BT p.2))
theorem kI5(d:Nat){n:Int}(h:GQ n):Program.keyLits cq (d+1) 3 [.int .i64 n]=some [.int .i64 n]:=by unfold Program.keyLits;simp[Tryz.underlying3,wfI h]
theorem kGr(d:Nat){a b:Int}(ha:GQ a)(hb:GQ b):Program.keyLits cq (d+2) 151 [.int .i64 a,.int .i64 b]=some [.int .i64 a,.int .i64 b]:=by unfold Program.keyLits;simp[Tryz.underlying151,kI5 d ha,kI5 d hb]
theorem kWS(d:Nat){a b:Int}(ha:GQ a)(hb:GQ b):Program.keyLits cq (d+2) 86 [.int .i64 a,.int .i64 b]=some [.int .i64 a,.int .i64 b]:=by unfold Program.keyLits;simp[Tryz.underlying86,kI5 d ha,kI5 d hb]
theorem kSS(d:Nat){a b c e:Int}(ha:GQ a)(hb:GQ b)(hc:GQ c)(he:GQ e):(Program.keyLits cq (d+3) 153 [.int .i64 a,.int .i64 b,.int .i64 c,.int .i64 e]).isSome=true:=by unfold Program.keyLits;simp[cx,kGr d ha hb,kWS d hc he]
theorem AQ9:cq.types.size+1=(cq.types.size-2)+3:=by have:2<=cq.types.size:=of_decide_eq_true (by kernel_rfl);omega
theorem AM4:xF cq 153=true:=by kernel_rfl
theorem ARA:cq.keyType 153=true:=by kernel_rfl
theorem AE9(x:Sp)(h:okX x):WY cq 153 (.agg (A6 x))=some (A6 x):=by
 obtain⟨h1,h2,h3,h4⟩:=h;have q:=kSS (cq.types.size-2) h1 h2 h3 h4;rw[<-AQ9]at q;have hf:(Value.agg #[.int .i64 (x.fam:Int),.int .i64 x.size,.int .i64 x.row,.int .i64 x.place]).formed cq 153=true:=by unfold Value.formed;simp[cx]
 have hko:(keyOf cq 153 (.agg #[.int .i64 (x.fam:Int),.int .i64 x.size,.int .i64 x.row,.int .i64 x.place])).isSome=true:=by unfold keyOf;rw[cx];simp only;rw[if_pos (by rw[ARA,hf];rfl),Option.isSome_map];exact q
 have hp:DX (A6 x)=some [.int .i64 (x.fam:Int),.int .i64 x.size,.int .i64 x.row,.int .i64 x.place]:=rfl;unfold WY;simp only[hp];rw[if_pos hko]
theorem eS(x:Sp):A6 x=[(x.fam:Int),x.size,x.row,x.place].map i:=rfl
theorem nB:∀(x y:List Int),x.length=y.length->eqC (x.map i) (y.map i)=some (x==y)
 |[],[],_=>rfl
 |a::x,b::y,h=>by have ih:=nB x y (by simpa using h);simp only[bw];show(if IntKind.i64=IntKind.i64 then(match eqC (x.map i) (y.map i)with|some r=>some ((a==b)&&r)|none=>none) else none)=_;rw[if_pos rfl,ih];rfl
theorem A10(x y:Sp):eqC (A6 x) (A6 y)=some (decide (x=y)):=by
 rw[eS x,eS y,nB [(x.fam:Int),x.size,x.row,x.place] [(y.fam:Int),y.size,y.row,y.place] rfl];congr 1;rw[Bool.eq_iff_iff];simp only[beq_iff_eq,decide_eq_true_eq,List.cons.injEq,and_true];constructor
 ·rintro ⟨h1,h2,h3,h4⟩;obtain⟨a,b,c,d⟩:=x;obtain⟨a',b',c',d'⟩:=y;simp only at h1 h2 h3 h4;have:a=a':=by omega
  subst this h2 h3 h4;rfl
 ·rintro rfl;exact⟨rfl,rfl,rfl,rfl⟩
def cQ(m:Sp):List (Sp×BJ)->Nat->List Nat
 |[],_=>[]
 |p::L,j=>if p.1=m then j::cQ m L (j+1) else cQ m L (j+1)
theorem iH(m:Sp):∀(L:List (Sp×BJ)) (j:Nat),(∀p∈L,okX p.1)->M6 cq 153 (A6 m) (L.map GB) j=some (cQ m L j)
 |[],_,_=>rfl
 |p::L,j,h=>by have ih:=iH m L (j+1) (fun q hq=>h q (by simp[hq]));simp only[bw,GB,M6,AE9 p.1 (h p (by simp)),A10 p.1 m];have ih':M6 cq 153 (A6 m) (ck GB L) (j+1)=some (cQ m L (j+1)):=ih;rw[ih'];simp[cQ]
def LV(m:Sp):List (Sp×BJ)->Option BJ
 |[]=>none
 |p::L=>if p.1=m then some p.2 else LV m L
def OU(m:Sp)(b:BJ):List (Sp×BJ)->List (Sp×BJ)
 |[]=>[(m,b)]
 |p::L=>if p.1=m then(m,b)::L else p::OU m b L
structure iI(c:AP)(L:List (Sp×BJ)):Prop where
 ok:∀p∈L,okX p.1
 nd:(L.map (·.1)).Nodup
 so:∀p∈L,p.2=BS c (AN c) p.1
theorem eT{m:Sp}{s:BJ}:∀{L:List (Sp×BJ)},LV m L=some s->(m,s)∈L
 |[],h=>by cases h
 |p::L,h=>by
  unfold LV at h;split at h
  ·rename_i e;cases h;subst e;simp
  ·exact bb _ (eT h)
theorem T3{m:Sp}{b:BJ}{q:Sp×BJ}:∀{L:List (Sp×BJ)},q∈OU m b L->q=(m,b)\/q∈L
 |[],h=>by simp only[OU,List.mem_singleton]at h;exact .inl h
 |p::L,h=>by
  unfold OU at h;split at h
  ·rcases bm.1 h with h|h
   ·exact .inl h
   ·exact .inr (bb _ h)
  ·rcases bm.1 h with rfl|h
   ·exact .inr (by simp)
   ·rcases T3 h with h|h
    ·exact .inl h
    ·exact .inr (bb _ h)
theorem yY(m:Sp)(b:BJ):∀L,∀q∈(OU m b L).map (·.1),q=m\/q∈L.map (·.1):=fun L q hq=>by
 obtain⟨p,hp,rfl⟩:=List.mem_map.1 hq;rcases T3 hp with rfl|h
 ·exact .inl rfl
 ·exact .inr (List.mem_map_of_mem h)
theorem vF(m:Sp)(b:BJ):∀{L:List (Sp×BJ)},(L.map (·.1)).Nodup->((OU m b L).map (·.1)).Nodup
 |[],_=>by simp[OU]
 |p::L,h=>by
  have h2:=bp.1 h;have ih:=vF m b (L:=L) h2.2;unfold OU;split
  ·rename_i e;simp only[bw]at h|-;rwa [<-e]
  ·rename_i e;simp only[bw,bp];refine⟨fun hh=>?_,ih⟩;rcases yY m b L _ hh with h3|h3
   ·exact e h3
   ·exact h2.1 h3
theorem iI.upd{c:AP}{m:Sp}{L:List (Sp×BJ)}(h:iI c L)(hm:okX m):iI c (OU m (BS c (AN c) m) L):=by
 refine⟨fun p hp=>?_,vF _ _ h.nd,fun p hp=>?_⟩
 ·rcases T3 hp with rfl|hp
  ·exact hm
  ·exact h.ok p hp
 ·rcases T3 hp with rfl|hp
  ·rfl
  ·exact h.so p hp
theorem PI(m:Sp):∀(L:List (Sp×BJ)) (j:Nat),m∉L.map (·.1)->cQ m L j=[]/\LV m L=none/\∀b,OU m b L=L++[(m,b)]
 |[],j,_=>⟨rfl,rfl,fun _=>rfl⟩
 |p::L,j,h=>by simp only[bw,bm,not_or]at h;obtain⟨i1,i2,i3⟩:=PI m L (j+1) h.2;have hp:¬p.1=m:=fun hh=>h.1 hh.symm;exact⟨by simp[cQ,hp,i1],by simp[LV,hp,i2],fun b=>by simp[OU,hp,i3]⟩
theorem VN(m:Sp):∀(L:List (Sp×BJ)) (j:Nat),m∈L.map (·.1)->(L.map (·.1)).Nodup->∃k,cQ m L j=[j+k]/\(∃b,L[k]? = some (m,b)/\LV m L=some b)/\∀b,OU m b L=L.set k (m,b)
 |p::L,j,h,hn=>by
  simp only[bw,bp]at hn;by_cases hp:p.1=m
  ·refine⟨0,?_,⟨p.2,?_,?_⟩,fun b=>?_⟩
   ·simp[cQ,hp,(PI m L (j+1) (by rw[<-hp];exact hn.1)).1]
   ·simp[<-hp]
   ·simp[LV,hp]
   ·simp[OU,hp]
  ·simp only[bw,bm]at h;obtain⟨k,i1,⟨b,i2,i3⟩,i4⟩:=VN m L (j+1) (h.resolve_left fun hh=>hp hh.symm) hn.2;refine⟨k+1,?_,⟨b,?_,?_⟩,fun b=>?_⟩
   ·simp[cQ,hp,i1];omega
   ·simpa using i2
   ·simp[LV,hp,i3]
   ·simp[OU,hp,i4]
theorem AFA(s:St)(x:Sp):BW s (.agg (A6 x))=some (.agg (A6 x)):=rfl
theorem AFB(s:St)(x:BJ):BW s (.agg (BT x))=some (.agg (BT x)):=rfl
theorem iJ(s:St)(L:List (Sp×BJ)):CH s (.map (L.map GB))=.map (L.map GB):=by
 have:CB s (.map (L.map GB))=some (.map (L.map GB)):=by unfold CB;simp only;rw[M1];intro x hx;simp only[List.mem_map]at hx;obtain⟨p,hp,rfl⟩:=hx;simp only[GB,AFA,AFB]
 unfold CH;rw[this]
theorem AM5:ADE cq 173=some (153,158):=by kernel_rfl
theorem AKH:UV cq 158=some (.agg [i 0,i 0,.bool false]):=by kernel_rfl
theorem A11{s:St}{l q g:Nat}{c:AP}{L:List (Sp×BJ)}{m:Sp}(hs:s.get l q=some (g,.map (L.map GB)))(hL:iI c L)(hm:okX m) :
  DK cq s 173 (.mp l q g) (.agg (A6 m)) true=some (.tup [.agg (BT ((LV m L).getD ⟨0,0,false⟩)),.bool (LV m L).isSome]):=by
 unfold DK
 simp only[AM5,hs,AM4,AE9 m hm,iH m L 0 hL.ok,and_self,if_true]
 by_cases h:m∈L.map (·.1)
 ·obtain⟨k,i1,⟨b,i2,i3⟩,_⟩:=VN m L 0 h hL.nd;simp[i1,i2,i3,GB]
 ·obtain⟨i1,i2,_⟩:=PI m L 0 h;simp[i1,i2,AKH,BT]
theorem BBT{s:St}{l q g:Nat}{c:AP}{L:List (Sp×BJ)}{m:Sp}{b:BJ}(hs:s.get l q=some (g,.map (L.map GB)))(hL:iI c L)(hm:okX m) :
  LK cq s 173 (.mp l q g) (.agg (A6 m)) (.agg (BT b))=some (l,q,g,(OU m b L).map GB):=by
 unfold LK
 simp only[AM5,hs,AM4,AE9 m hm,iH m L 0 hL.ok,and_self,if_true]
 by_cases h:m∈L.map (·.1)
 ·obtain⟨k,i1,_,i4⟩:=VN m L 0 h hL.nd;simp[i1,i4,GB]
 ·obtain⟨i1,_,i4⟩:=PI m L 0 h;simp[i1,i4,GB]
end Go.Proofs.Tryz.Op
namespace Go.Wind
def oH(c:AP)(sure:List (List Int))(x:Sp)(k:Nat):BJ :=
 ⟨G9 (fun p=>E5 sure x.row (x.place+(p:Int))) k,G9 (fun p=>if RA c x.row (x.place+(p:Int))=true then 0 else 1) k,(List.range k).all fun p=>decide ((IG c x.fam).good<=E5 sure x.row (x.place+(p:Int)))⟩
theorem AKI(c:AP)(sure:List (List Int))(x:Sp):oH c sure x x.size.toNat=BS c sure x:=rfl
theorem nC(c:AP)(sure:List (List Int))(x:Sp)(k:Nat):oH c sure x (k+1)=⟨(oH c sure x k).sun+E5 sure x.row (x.place+(k:Int)),(oH c sure x k).carried+(if RA c x.row (x.place+(k:Int))=true then 0 else 1),(oH c sure x k).enough&&decide ((IG c x.fam).good<=E5 sure x.row (x.place+(k:Int)))⟩:=by unfold oH;rw[List.range_succ,List.all_append];simp[G9]
end Go.Wind
namespace Go.Proofs.Tryz.Op
theorem rM{c:AP}(hc:BZ c){f r p:Nat}{z:Int}:∀k,0<=(oH c (AN c) ⟨f,z,(r:Int),(p:Int)⟩ k).sun/\(oH c (AN c) ⟨f,z,(r:Int),(p:Int)⟩ k).sun<=5*k/\0<=(oH c (AN c) ⟨f,z,(r:Int),(p:Int)⟩ k).carried/\(oH c (AN c) ⟨f,z,(r:Int),(p:Int)⟩ k).carried<=k
 |0=>by simp[oH,G9]
 |k+1=>by
  have ih:=rM hc (f:=f) (r:=r) (p:=p) (z:=z) k;rw[nC];have h1:0<=E5 (AN c) (r:Int) ((p:Int)+(k:Int))/\E5 (AN c) (r:Int) ((p:Int)+(k:Int))<=5:=by
   unfold E5;rw[bk,bk];by_cases hr:(r:Int).toNat<(AN c).length
   ·rw[bj hr];have:=K5 hc _ (bq hr);by_cases hp:((p:Int)+(k:Int)).toNat<((AN c)[(r:Int).toNat]).length
    ·simp only[bh,bj hp];exact this.2 _ (bq hp)
    ·simp only[bh,bn (Nat.le_of_not_lt hp)];decide
   ·rw[bn (Nat.le_of_not_lt hr)];simp
  simp only at ih|-;split<;>omega
theorem A12(c:AP)(hc:BZ c)(γ:Nat)(L:AA)(hL:L.get 911=some (γ+1,.box (BV c γ)))(R:List AA)(g:Nat)(f r p:Nat)(z:Int)(hf:f<c.fams.length)(hz:0<=z/\z<=4)(hr:(r:Int)<c.beach.rows)(hp:(p:Int)+z<=c.beach.places)(B4:AV):∀(d k cc:Nat),k+d=z.toNat->g+2<cc->∃fr,BL fr 0=some (true,.ptr 0 911 (γ+1) 0)/\BL fr 3=some (true,.ptr (R.length+1) 3 g 0)/\BL fr 4=some (true,.ptr (R.length+1) 4 (g+1) 0)/\BL fr 5=some (true,.ptr (R.length+1) 5 (g+2) 0) /\
  ∀n m,d<m->BM (AF cq ann kn (n+400) 94) SM (ann 94 (CG SM)) m ⟨cc,[(0,true,.ptr 0 911 (γ+1) 0),(3,true,.ptr (R.length+1) 3 g 0),(4,true,.ptr (R.length+1) 4 (g+1) 0),(5,true,.ptr (R.length+1) 5 (g+2) 0),(7,true,i ((p:Int)+(k:Int)))],⟨L::R,[(3,g,.box (A6 ⟨f,z,(r:Int),(p:Int)⟩)),(4,g+1,B4),(5,g+2,.box (BT (oH c (AN c) ⟨f,z,(r:Int),(p:Int)⟩ k)))]⟩⟩ =
   some (.exit 0,⟨cc,fr,⟨L::R,[(3,g,.box (A6 ⟨f,z,(r:Int),(p:Int)⟩)),(4,g+1,B4),(5,g+2,.box (BT (BS c (AN c) ⟨f,z,(r:Int),(p:Int)⟩)))]⟩⟩)
 |0,k,cc,hd,hcc=>by
  obtain rfl:k=z.toNat:=by omega
  have hz2:(z.toNat:Int)=z:=by omega
  have hpl:=hc.be.pl;rw[<-AKI];have hzz:(⟨f,z,(r:Int),(p:Int)⟩:Sp).size.toNat=z.toNat:=rfl;rw[hzz];generalize oH c (AN c) ⟨f,z,(r:Int),(p:Int)⟩ z.toNat=S;rw[hz2];have w1:IntKind.i64.wrap ((p:Int)+z)=(p:Int)+z:=AX (by omega) (by omega);refine⟨?fr,?g1,?g2,?g3,?g4,fun n m hm=>?g9⟩;case g9=>
   obtain⟨m,rfl⟩:=qNz m (by omega)
   rw[AB]
   simp[A6,BT,w1]
   rfl
  all_goals simp
 |d+1,k,cc,hd,hcc=>by
  have hpl:=hc.be.pl;have hro:=hc.be.ro;have w1:IntKind.i64.wrap ((p:Int)+z)=(p:Int)+z:=AX (by omega) (by omega);have w2:IntKind.i64.wrap ((p:Int)+(k:Int)+1)=(p:Int)+((k+1:Nat):Int):=by rw[AX (by omega) (by omega)];omega
  have hlt:(k:Int)<z:=by omega
  have hr5:r<(AN c).length:=by rw[K6];omega
  have hrow:=K5 hc _ (bq hr5);have hpk:p+k<((AN c)[r]).length:=by omega
  have hcr:r<c.chairs.length:=by have:=hc.ch;omega
  have hcl:=hc.cr _ (bq hcr);have hpc:p+k<(c.chairs[r]).length:=by omega
  have hb:=rM hc (f:=f) (r:=r) (p:=p) (z:=z) k;have hs1:E5 (AN c) (r:Int) ((p:Int)+(k:Int))=((AN c)[r])[p+k]:=by
   have e:((p:Int)+(k:Int)).toNat=p+k:=by omega
   unfold E5;rw[bk,bk,Int.toNat_natCast,bj hr5,e];simp only[bh,bj hpk]
  have hc1:RA c (r:Int) ((p:Int)+(k:Int))=(c.chairs[r])[p+k]:=by
   have e:((p:Int)+(k:Int)).toNat=p+k:=by omega
   unfold RA;rw[bk,bk,Int.toNat_natCast,bj hcr,e];simp only[bh,bj hpc]
  have hv:=hrow.2 _ (bq hpk);have hfm:IG c f=c.fams[f]:=by simp[IG,bj hf]
  obtain⟨fr,e0,e3,e4,e5,ih⟩:=A12 c hc γ L hL R g f r p z hf hz hr hp B4 d (k+1) cc (by omega) hcc;refine⟨fr,e0,e3,e4,e5,fun n m hm=>?_⟩;obtain⟨m,rfl⟩:=qNz m (by omega);have ih:=ih n m (by omega);rw[nC]at ih;simp only[hs1,hc1,hfm]at ih;generalize BS c (AN c) ⟨f,z,(r:Int),(p:Int)⟩=FIN at *;generalize oH c (AN c) ⟨f,z,(r:Int),(p:Int)⟩ k=S at *;obtain⟨sn,cr,en⟩:=S;simp only at ih hb;have w3:IntKind.i64.wrap (sn+((AN c)[r])[p+k])=sn+((AN c)[r])[p+k]:=AX (by omega) (by omega);have w4:IntKind.i64.wrap (cr+1)=cr+1:=AX (by omega) (by omega);have hp0:(0:Int)<=(p:Int)+(k:Int):=by omega
  have hp1:(p:Int)+(k:Int)<5:=by omega
  have hp2:((p:Int)+(k:Int)).toNat=p+k:=by omega
  have hp3:(p:Int)+(k:Int)<((c.chairs[r]).length:Int):=by omega
  have hlen5:((AN c)[r]).length=5:=hrow.1;have hgo:=bj hpk;generalize ((AN c)[r])[p+k]=V at *;generalize hGD:decide ((c.fams[f]).good<=V)=G at ih;generalize hCH:(c.chairs[r])[p+k]=C at *;rw[AB];simp only[BV,AE]at hL;simp only[A6,BT]at ih|-;cases en<;>cases G<;>cases C<;>(simp at ih;simp[hL,w1,w2,w3,w4,hlt,hr5,hcr,hf,hp0,hp1,hp2,hp3,hpc,hlen5,hGD,hCH,hgo,hcc,encA,AS,BU,AU,plK,ih])
structure Lw(c:AP)(γ:Nat)(B L:AA):Prop where
 p0:∃T,iI c T/\L.get 910=some (γ,.map (T.map GB))
 p1:L.get 911=some (γ+1,.box (BV c γ))
 st:∀t:St,1<=t.up.length->AH t L=L
 ot:∀k,¬k=910->L.get k=B.get k
theorem Lw.put{c:AP}{γ:Nat}{B L:AA}(h:Lw c γ B L){T:List (Sp×BJ)}(h1:iI c T):Lw c γ B ((910,γ,.map (T.map GB))::L) where
 p0:=⟨T,h1,by simp⟩
 p1:=by simpa using h.p1
 st:=fun t ht=>by rw[A1,h.st t ht,iJ t T]
 ot:=fun k h1=>by rw[<-h.ot k h1];simp[h1]
theorem AKJ(c:AP)(hc:BZ c)(γ:Nat)(B:AA)(f r p:Nat)(z:Int)(hf:f<c.fams.length)(hz:0<=z/\z<=4)(hr:(r:Int)<c.beach.rows)(hp:(p:Int)+z<=c.beach.places)(L:AA)(hL:Lw c γ B L)(rs:List AA)(loc:AA)(hst:EQ (rs++[loc]))(cc:Nat)(hcc:γ+1<cc) :
  ∃L' c',Lw c γ B L'/\cc<=c'/\∀n dd fr,G7 (BH cq ann kn (n+600)) (some dd) ⟨cc,fr,⟨L::rs,loc⟩⟩ 129 [.ptr 0 911 (γ+1) 0,.agg (A6 ⟨f,z,(r:Int),(p:Int)⟩)]=some ⟨c',(dd,true,.agg (BT (BS c (AN c) ⟨f,z,(r:Int),(p:Int)⟩)))::fr,⟨L'::rs,loc⟩⟩:=by
 obtain⟨T,a1,a2⟩:=hL.p0
 have p1:=hL.p1
 have hfl:=hc.fl
 have hro:=hc.be.ro
 have hpl:=hc.be.pl
 have hK:okX ⟨f,z,(r:Int),(p:Int)⟩:=⟨PN (by simp only;omega),PN (by simp only;omega),PN (by simp only;omega),PN (by simp only;omega)⟩
 have ql:∀(R:List AA) (lo:AA),DK cq ⟨L::R,lo⟩ 173 (.mp 0 910 γ) (.agg (A6 ⟨f,z,(r:Int),(p:Int)⟩)) true=some (.tup [.agg (BT ((LV ⟨f,z,(r:Int),(p:Int)⟩ T).getD ⟨0,0,false⟩)),.bool (LV ⟨f,z,(r:Int),(p:Int)⟩ T).isSome]):=fun R lo=>A11 (by simpa using a2) a1 hK
 have hs1:=fun t:St=>fun h=>hst t h
 have sL:=hL.st
 have hb3:Nat.beq 3 1=false:=rfl
 have hγ:γ<cc+3:=by omega
 cases hlk:LV ⟨f,z,(r:Int),(p:Int)⟩ T with
 |some v=>
  rw[hlk]at ql
  have hv:=a1.so _ (eT hlk)
  simp only at hv
  subst hv
  refine⟨L,cc+3,hL,by omega,fun n dd fr=>?_⟩
  rw[A2 Tryz.func129 b129 rfl (by simp)]
  generalize BS c (AN c) ⟨f,z,(r:Int),(p:Int)⟩=S at *
  simp only[BV,AE,A6,BT]at p1 ql|-
  simp at ql
  simp[AO7,AD,p1,ql,sL,hs1,DF,BO,hb3]
 |none=>
  rw[hlk]at ql
  have hL':=hL.put (a1.upd hK)
  have qu:∀(R:List AA) (lo:AA),LK cq ⟨L::R,lo⟩ 173 (.mp 0 910 γ) (.agg (A6 ⟨f,z,(r:Int),(p:Int)⟩)) (.agg (BT (BS c (AN c) ⟨f,z,(r:Int),(p:Int)⟩)))=some (0,910,γ,(OU ⟨f,z,(r:Int),(p:Int)⟩ (BS c (AN c) ⟨f,z,(r:Int),(p:Int)⟩) T).map GB):=fun R lo=>BBT (by simpa using a2) a1 hK
  obtain⟨fr1,e0,e3,e4,e5,qq⟩:=A12 c hc γ L p1 (rs++[loc]) cc f r p z hf hz hr hp (.box [i 0,i 0,.bool false]) z.toNat 0 (cc+3) (by omega) (by omega)
  have qq:=fun n m=>qq n (m+100) (by omega)
  rw[show oH c (AN c) ⟨f,z,(r:Int),(p:Int)⟩ 0=⟨0,0,true⟩ from rfl]at qq
  have hsh:=fun t:St=>hL'.st t
  generalize (OU ⟨f,z,(r:Int),(p:Int)⟩ (BS c (AN c) ⟨f,z,(r:Int),(p:Int)⟩) T).map GB=TT at qu hL' hsh
  refine⟨_,cc+3,hL',by omega,fun n dd fr=>?_⟩
  rw[A2 Tryz.func129 b129 rfl (by simp)]
  have hu1:=fun c fr s es=>AFL (c:=c) (fr:=fr) (s:=s) 0 910 γ es
  generalize BS c (AN c) ⟨f,z,(r:Int),(p:Int)⟩=S at *
  simp only[BV,AE,A6,BT]at p1 ql qu qq|-
  simp at ql qq
  simp[AO7,AD,p1,ql,qu,hu1,qq,e0,e3,e4,e5,hsh,hs1,DW,DF,B8,BO,hb3,hγ]
theorem cR(a z:Option V):orK false a z=z:=by cases a<;>rfl
theorem cS(d c:Nat)(fr:Fr)(s:St)(z:Option XS):oc2 d c fr s none z=z:=rfl
@[simp] theorem A13:JA cq 129=false:=by kernel_rfl
theorem AFC(rec:F8)(l k g o:Nat)(a:V):A3 cq kn rec 129 [.ptr l k g o,a]=none:=by rw[AQ rfl];unfold EM;rw[show([V.ptr l k g o,a].all (AG 9))=false from rfl]
theorem cT(n:Nat)(d:Option Tmp)(x:Operand)(args:List Operand)(c:Nat)(fr:Fr)(s:St):TO (BH cq ann kn n).cf (aJ (AF cq ann kn n)) d x args ⟨c,fr,s⟩=ca1 (BH cq ann kn n) d ⟨c,fr,s⟩ (CK fr x) (FQ (CK fr) args):=bI d ⟨c,fr,s⟩ x args
def vG(c:AP)(x:Sp):Prop:=JB c x=true/\x.fam<c.fams.length/\0<=x.size/\x.size<=4
theorem AFD(c:AP)(hc:BZ c)(γ:Nat)(B:AA)(x:Sp)(hx:vG c x)(L:AA)(hL:Lw c γ B L)(rs:List AA)(loc:AA)(hst:EQ (rs++[loc]))(cc:Nat)(hcc:γ+1<cc) :
  ∃L' c',Lw c γ B L'/\cc<=c'/\∀n dd fr,G7 (BH cq ann kn (n+600)) (some dd) ⟨cc,fr,⟨L::rs,loc⟩⟩ 129 [.ptr 0 911 (γ+1) 0,.agg (A6 x)]=some ⟨c',(dd,true,.agg (BT (BS c (AN c) x)))::fr,⟨L'::rs,loc⟩⟩:=by
 obtain⟨h1,h2,h3,h4⟩:=hx
 obtain⟨f,z,r,p⟩:=x
 obtain⟨g1,g2,g3,g4⟩:=W9 h1
 simp only at g1 g2 g3 g4 h2 h3 h4
 obtain⟨r,rfl⟩:∃k:Nat,r=k:=⟨r.toNat,by omega⟩
 obtain⟨p,rfl⟩:∃k:Nat,p=k:=⟨p.toNat,by omega⟩
 exact AKJ c hc γ B f r p z h2 ⟨h3,h4⟩ g2 g4 L hL rs loc hst cc hcc
theorem bC{c:AP}(hc:BZ c){x:Sp}(hx:vG c x):0<=(BS c (AN c) x).sun/\(BS c (AN c) x).sun<=20/\0<=(BS c (AN c) x).carried/\(BS c (AN c) x).carried<=4:=by obtain⟨h1,h2,h3,h4⟩:=hx;obtain⟨f,z,r,p⟩:=x;obtain⟨g1,g2,g3,g4⟩:=W9 h1;simp only at g1 g2 g3 g4 h2 h3 h4;obtain⟨r,rfl⟩:∃k:Nat,r=k:=⟨r.toNat,by omega⟩;obtain⟨p,rfl⟩:∃k:Nat,p=k:=⟨p.toNat,by omega⟩;have:=rM hc (f:=f) (r:=r) (p:=p) (z:=z) z.toNat;rw[show BS c (AN c) ⟨f,z,(r:Int),(p:Int)⟩=oH c (AN c) ⟨f,z,(r:Int),(p:Int)⟩ z.toNat from rfl];omega
theorem AFE(c:AP)(s:List (List Int))(l:List Sp)(x:Sp):EW c s (l++[x])=⟨(EW c s l).sun+(BS c s x).sun,(EW c s l).carried+(BS c s x).carried,(EW c s l).enough&&(BS c s x).enough⟩:=by unfold EW;rw[List.foldl_append];rfl
theorem AFF{c:AP}(hc:BZ c):∀{l:List Sp},(∀x∈l,vG c x)->0<=(EW c (AN c) l).sun/\(EW c (AN c) l).sun<=20*l.length/\0<=(EW c (AN c) l).carried/\(EW c (AN c) l).carried<=4*l.length:=fun {l} h=>by
 rw[oL];have h1:=fG (l:=l) (f:=fun x=>(BS c (AN c) x).sun) (m:=20) fun x hx=>by have:=bC hc (h x hx);omega
 have h2:=fG (l:=l) (f:=fun x=>(BS c (AN c) x).carried) (m:=4) fun x hx=>by have:=bC hc (h x hx);omega
 simp only;omega
def nD(RS:List AA)(l:List Sp)(v:V):Prop:=v=.list false (l.map A6)\/(v=.nil/\l=[])\/∃q γ es,v=.vec (q+1) 921 γ l.length/\nA RS q γ l es
theorem A14(c:AP)(hc:BZ c)(γ:Nat)(B:AA)(l:List Sp)(hl:l.length<=10)(hx:∀x∈l,vG c x)(RS:List AA)(hst:EQ RS)(v:V)(hv:nD RS l v)(g:Nat):∀(d k cc:Nat) (L:AA),k+d=l.length->Lw c γ B L->γ+1<cc->g<cc->∃fr L' c',BL fr 4=some (true,.ptr (RS.length+1) 4 g 0)/\BL fr 5=some (true,.ptr (RS.length+1) 5 (g+1) 0)/\Lw c γ B L'/\cc<=c' /\
  ∀n m,d<m->BM (AF cq ann kn (n+800) 38) YS (ann 38 (CG YS)) m ⟨cc,[(0,true,.ptr 0 911 (γ+1) 0),(4,true,.ptr (RS.length+1) 4 g 0),(5,true,.ptr (RS.length+1) 5 (g+1) 0),(10,true,v),(11,true,i l.length),(12,true,i k)],⟨L::RS,[(4,g,.box [i 0,i 0,.bool false]),(5,g+1,.box (BT (EW c (AN c) (l.take k))))]⟩⟩ =
   some (.exit 0,⟨c',fr,⟨L'::RS,[(4,g,.box [i 0,i 0,.bool false]),(5,g+1,.box (BT (EW c (AN c) l)))]⟩⟩)
 |0,k,cc,L,hd,hL,hcc,hg=>by
  obtain rfl:k=l.length:=by omega
  rw[List.take_length];refine⟨?fr,L,cc,?g1,?g2,hL,Nat.le_refl _,fun n m hm=>?g9⟩;case g9=>
   obtain⟨m,rfl⟩:=qNz m (by omega)
   rw[AB]
   simp[BT]
   rfl
  all_goals simp
 |d+1,k,cc,L,hd,hL,hcc,hg=>by
  have hk:k<l.length:=by omega
  have hw:=B7 (k:=k) (by omega);have hxk:=hx _ (bq hk);obtain⟨L1,c1,r1,r2,r3⟩:=AFD c hc γ B l[k] hxk L hL RS [(4,g,.box [i 0,i 0,.bool false]),(5,g+1,.box (BT (EW c (AN c) (l.take k)))),(7,cc,.box (A6 l[k]))] (FC hst fun t _=>by simp[BT,A6]) (cc+1) (by omega);obtain⟨fr,L',c',e4,e5,hL',hc',ih⟩:=A14 c hc γ B l hl hx RS hst v hv g d (k+1) (c1+1) L1 (by omega) r1 (by omega) (by omega);refine⟨fr,L',c',e4,e5,hL',by omega,fun n m hm=>?_⟩;obtain⟨m,rfl⟩:=qNz m (by omega);have ih:=ih n m (by omega);rw[List.take_succ_eq_append_getElem hk,AFE]at ih;have hsl:=bC hc hxk;have hgc:g<c1:=by omega
  have htl:=AFF hc (l:=l.take k) fun x hx2=>hx x (List.mem_of_mem_take hx2);have htk:(l.take k).length<=10:=by rw[List.length_take];omega
  generalize EW c (AN c) (l.take k)=S at *;generalize EW c (AN c) l=F at *;generalize BS c (AN c) l[k]=s at *;have w1:IntKind.i64.wrap (S.sun+s.sun)=S.sun+s.sun:=AX (by omega) (by omega);have w2:IntKind.i64.wrap (S.carried+s.carried)=S.carried+s.carried:=AX (by omega) (by omega);obtain⟨S1,S2,S3⟩:=S;rw[AB];simp only[A6,BT]at r3 ih|-;simp only at w1 w2 ih;rcases hv with rfl|⟨_,rfl⟩|⟨q,γr,es,rfl,hr⟩
  ·cases S3<;>(simp at ih r3;simp[hk,hw,r3,A6,hgc,w1,w2,cR,cS,AFC,cT,ih])
  ·simp at hk
  ·obtain⟨⟨Lq,hU,hLq⟩,hln,hel⟩:=hr;have hke:k<es.length:=by omega
   have hel:=hel k hk hke;have hq:¬q=RS.length:=fun e=>by rw[e]at hU;simp at hU
   cases S3<;>(simp at ih r3;simp[hk,hw,r3,hU,hLq,hln,hel,hke,hq,A6,hgc,w1,w2,cR,cS,AFC,cT,ih])
theorem nD.len{RS:List AA}{l:List Sp}{v:V}(h:nD RS l v):v=.list false (l.map A6)\/(v=.nil/\l=[])\/∃q γ,v=.vec q 921 γ l.length:=by
 rcases h with h|h|⟨q,γ,es,h,_⟩
 ·exact .inl h
 ·exact .inr (.inl h)
 ·exact .inr (.inr ⟨_,_,h⟩)
theorem A15(c:AP)(hc:BZ c)(γ:Nat)(B:AA)(l:List Sp)(hl:l.length<=10)(hx:∀x∈l,vG c x)(RS:List AA)(hst:EQ RS)(v:V)(hv:nD RS l v)(L:AA)(hL:Lw c γ B L)(cc:Nat)(hcc:γ+1<cc):∃L' c',Lw c γ B L'/\cc<=c'/\∀n dd fr,bL cq (some dd) fr Tryz.f86.results.toList (AF cq ann kn (n+900) 38 c86 ⟨cc,AD 0 [.ptr 0 911 (γ+1) 0,v],⟨L::RS,[]⟩⟩)=UC (some dd) fr c' (.agg (BT (EW c (AN c) l))) (B9 (L'::RS)):=by
 obtain⟨fr1,L',c',e4,e5,hL',hc',qq⟩:=A14 c hc γ B l hl hx RS hst v hv cc l.length 0 (cc+2) L (by omega) hL (by omega) (by omega);have qq:=fun n m=>qq n (m+100) (by omega);rw[List.take_zero,show EW c (AN c) []=⟨0,0,true⟩ from rfl]at qq;have hcc2:cc<c':=by omega
 have sL:=hL'.st;have sR:∀(A:AA) (lo:AA),RS.map (AH ⟨A::RS,lo⟩)=RS:=fun A lo=>hst _ (by simp);refine⟨L',c',hL',by omega,fun n dd fr=>?_⟩;generalize EW c (AN c) l=F at *;simp only[BT]at qq|-;rcases hv.len with rfl|⟨rfl,rfl⟩|⟨q,γr,rfl⟩
 ·simp at qq;simp[c86,AD,qq,e4,e5,sL,sR,hcc2]
 ·simp at qq;simp[c86,AD,qq,e4,e5,sL,sR,hcc2]
 ·simp at qq;simp[c86,AD,qq,e4,e5,sL,sR,hcc2]
theorem at5(R:List AA)(a:AA)(Y:List AA):(R++a::Y)[R.length]? = some a:=by simp
theorem rN(R:List AA)(a:AA)(Y:List AA)(f:AA->AA):(R++a::Y).modify R.length f=R++f a::Y:=by
 induction R with
 |nil=>rfl
 |cons x R ih=>simpa using ih
def yZ(q:Nat)(Lq:AA)(o:List Sp)(v:V)(cc:Nat):Prop:=(v=.nil/\o=[])\/∃γ es,v=.vec q 921 γ o.length/\Lq.get 921=some (γ,.vec 153 es)/\o.length<=es.length/\(∀k (h:k<o.length) (h2:k<es.length),es[k]=A6 o[k])/\(∀e∈es,e.length=4)/\γ<cc
theorem yZ.more{q:Nat}{Lq:AA}{o:List Sp}{v:V}{cc c2:Nat}(h:yZ q Lq o v cc)(hc:cc<=c2):yZ q Lq o v c2:=by
 rcases h with h|⟨γ,es,h1,h2,h3,h4,h5,h6⟩
 ·exact .inl h
 ·exact .inr ⟨γ,es,h1,h2,h3,h4,h5,by omega⟩
theorem AFG(n K:Nat)(U:List AA)(loc:AA)(f:FuncId)(cap:List V)(hco:cap.all (AG 8)=false)(hsh:StU (U++[loc]))(c dd:Nat)(fr:Fr):G7 (BH cq ann kn (n+K+100)) (some dd) ⟨c,fr,⟨U,loc⟩⟩ 189 [.nil,.fn f [] cap]=some ⟨c,(dd,true,i (-1))::fr,⟨U,loc⟩⟩:=by
 have hcl:([V.nil,V.fn f [] cap]).all (AG 9)=false:=by simp[hco]
 have hs:=hsh ⟨U++[loc],[]⟩ (by simp);simp at hs;rw[A2 cw b189 rfl hcl];simp[AIO,AD,AB,hs]
theorem ARB(n K:Nat)(U:List AA)(loc:AA)(f:FuncId)(cap:List V)(_:cap.map weakV=cap)(hco:cap.all (AG 8)=false)(hsh:StU (U++[loc]))(c dd:Nat)(fr:Fr):G7 (BH cq ann kn (n+K+200)) (some dd) ⟨c,fr,⟨U,loc⟩⟩ 171 [.nil,.fn f [] cap]=some ⟨c,(dd,true,.bool false)::fr,⟨U,loc⟩⟩:=by
 have hcl:([V.nil,V.fn f [] cap]).all (AG 9)=false:=by simp[hco]
 have hsh2:StU (U++[loc]++[[]]):=fun t h=>by have:=hsh t (by simp at h|-;omega);rw[bz,this];rfl
 have qq:=AFG (n+97) K (U++[loc]) [] f cap hco hsh2 c 7 [(6,true,.fn f [] cap),(5,true,.nil),(0,true,.nil),(1,true,.fn f [] cap)];have e:n+97+K+100=n+K+197:=by omega
 rw[e]at qq;have hs:=hsh ⟨U++[loc],[]⟩ (by simp);simp at hs;rw[A2 Tryz.func171 b171 rfl hcl];simp[AO3,AD,qq,hs]
theorem ARC(n K:Nat)(U:List AA)(loc:AA)(f:FuncId)(cap:List V)(hco:cap.all (AG 8)=false)(hsh:StU (U++[loc]))(c:Nat)(hcap:∀t:St,U.length+1<=t.up.length->AH t [(3,c,AV.box [V.fn f [] cap])]=[(3,c,AV.box [V.fn f [] cap])])(dd:Nat)(fr:Fr):G7 (BH cq ann kn (n+K+300)) (some dd) ⟨c,fr,⟨U,loc⟩⟩ 137 [.nil,.fn f [] cap]=some ⟨c+1,(dd,true,.bool true)::fr,⟨U,loc⟩⟩:=by
 have hcl:([V.nil,V.fn f [] cap]).all (AG 9)=false:=by simp[hco]
 have hsh2:StU (U++[loc]++[[(3,c,AV.box [V.fn f [] cap])]]):=fun t h=>by
  have h':U.length+1<=t.up.length:=by simp at h;omega
  have:=hsh t (by simpa using h');rw[bz,this];simp only[bw,List.map_nil,hcap t h']
 have qq:=ARB (n+77) (K+20) (U++[loc]) [(3,c,AV.box [V.fn f [] cap])] 172 [.ptr (U.length+1) 3 c 0] (by simp) (by simp) hsh2 (c+1) 7 [(6,true,.fn 172 [] [.ptr (U.length+1) 3 c 0]),(5,true,.nil),(0,true,.nil),(1,true,.fn f [] cap),(3,true,.ptr (U.length+1) 3 c 0)];have e:n+77+(K+20)+200=n+K+297:=by omega
 rw[e]at qq;have hs1:∀t:St,U.length+1<=t.up.length->ck (AH t) U=U/\AH t loc=loc:=fun t h=>by have:=hsh t (by simpa using h);simpa using this
 rw[A2 Tryz.func137 b137 rfl hcl];try simp only[bg,List.length_cons,List.length_nil]at qq|-
 simp[AO4,AD,qq,(hs1 _ _).1,(hs1 _ _).2]
theorem bD{c:AP}(hc:BZ c){x:Sp}(hx:vG c x):x.fam<c.fams.length/\(0<=x.size/\x.size<=1000)/\-1000<=x.place/\x.place<=1000:=by obtain⟨h1,h2,h3,h4⟩:=hx;have hpl:=hc.be.pl;have:=W9 h1;exact⟨h2,by omega,by omega,by omega⟩
theorem AKK(c:AP)(hc:BZ c)(γ:Nat)(B L:AA)(hL:Lw c γ B L)(x:Sp)(hx:vG c x)(o:List Sp)(ho:∀y∈o,vG c y)(hol:o.length<=10)(R:List AA)(Lq:AA)(Y:List AA)(v:V)(cc:Nat)(hv:yZ (R.length+1) Lq o v cc)(loc:AA)(g10:Nat)(hloc:loc.get 10=some (g10,.box (A6 x)))(hst:StU (L::(R++Lq::Y)++[loc])) :
  ∃c':Nat,cc<=c'/\∀n dd fr,G7 (BH cq ann kn (n+900)) (some dd) ⟨cc,fr,⟨L::(R++Lq::Y),loc⟩⟩ 137 [v,.fn 169 [] [.ref [.ptr 0 911 (γ+1) 0],.ptr (R.length+Y.length+2) 10 g10 0]]=some ⟨c',(dd,true,.bool (o.all (FV c x)))::fr,⟨L::(R++Lq::Y),loc⟩⟩:=by
 have hUl:(L::(R++Lq::Y)).length=R.length+Y.length+2:=by simp;omega
 have hcap:∀t:St,(L::(R++Lq::Y)).length+1<=t.up.length->AH t [(3,cc,AV.box [V.fn 169 [] [.ref [.ptr 0 911 (γ+1) 0],.ptr (R.length+Y.length+2) 10 g10 0]])]=[(3,cc,AV.box [V.fn 169 [] [.ref [.ptr 0 911 (γ+1) 0],.ptr (R.length+Y.length+2) 10 g10 0]])]:=fun t ht=>by
  rw[hUl]at ht;have e0:¬0=t.up.length:=by omega
  have e1:¬R.length+Y.length+2=t.up.length:=by omega
  obtain⟨up,lo⟩:=t;simp only at e0 e1;simp[e1]
 rcases hv with⟨rfl,rfl⟩|⟨γr,es,rfl,v2,v3,v4,v5,v6⟩
 ·refine⟨cc+1,by omega,fun n dd fr=>?_⟩;have qq:=ARC n 600 (L::(R++Lq::Y)) loc 169 [.ref [.ptr 0 911 (γ+1) 0],.ptr (R.length+Y.length+2) 10 g10 0] (by simp) hst cc hcap dd fr;rw[show n+600+300=n+900 by omega]at qq;exact qq
 ·have hr:nA (L :: (R++Lq :: Y)++[loc]) (R.length+1) γr o es:=⟨⟨Lq,by simp,v2⟩,v3,v4⟩;obtain⟨c',h1,qq⟩:=A1Z 600 (L :: (R++Lq :: Y)) loc 169 [.ref [.ptr 0 911 (γ+1) 0],.ptr (R.length+Y.length+2) 10 g10 0] (by simp) (by simp) (FV c x) o (R.length+1) γr es hr (by omega) hst cc hcap (fun c1 g2 y hc1 hy=>by
   have y1:=bD hc (ho y hy);have x1:=bD hc hx;have qa:=fun n=>AOA n c x y x1.1 y1.1 x1.2.2 y1.2.2 x1.2.1 y1.2.1;have p1:=hL.p1;refine⟨c1+1,by omega,fun n fr=>?_⟩;rw[A2 Tryz.func169 b169 rfl (by simp)];generalize FV c x y=z at *;have hs:=fun t h=>hst t h;have hg:(L::(R++Lq::Y)++[loc]++[[(3,cc,AV.box [V.fn 169 [] [.ref [.ptr 0 911 (γ+1) 0],.ptr (R.length+Y.length+2) 10 g10 0]])]]++[[]]++[[]]++[[(2,g2,.box (A6 y))]])[R.length+Y.length+2]? = some loc:=by rw[<-hUl];simp
   have hs1:∀t:St,(L::(R++Lq::Y)).length+1<=t.up.length->ck (AH t) (L::(R++Lq::Y))=L::(R++Lq::Y)/\AH t loc=loc:=fun t h=>by have:=hst t (by rw[bg,List.length_singleton];exact h);rw[bz]at this;have:=List.append_inj this (by simp);exact⟨this.1,by simpa using this.2⟩
   generalize hU:L::(R++Lq::Y)=U at *;have hU0:∀h:0<U.length,U[0]=L:=fun h=>by simp only[<-hU];rfl
   have hb12:Nat.beq 12 1=false:=rfl;have hu:∀(l:List AA) a b d,B9 (l++[a,b,[],[],d])=some (l++[a,b,[],[]],d):=fun l a b d=>by have:=unsnoc_snoc (d:AA) (l++[a,b,[],[]]);rwa [bx]at this
   have hb4:Nat.beq 4 1=false:=rfl;generalize hB3:[(3,cc,AV.box [V.fn 169 [] [.ref [.ptr 0 911 (γ+1) 0],.ptr (R.length+Y.length+2) 10 g10 0]])]=B3 at *;simp only[BV,AE,A6]at p1 qa hloc hg |-;simp only[bx,List.cons_append,List.nil_append]at hg |-;simp[AZ6,AD,p1,hU0,hu,hloc,hUl,qa,B8,BO,hb12,hb4,AS,BU,AU,(hs1 _ _).1,(hs1 _ _).2,hcap])
  exact⟨c',h1,fun n dd fr=>by
   have qq:=qq n dd fr;rwa [show n+600+300=n+900 by omega]at qq⟩
end Go.Proofs.Tryz.Op
