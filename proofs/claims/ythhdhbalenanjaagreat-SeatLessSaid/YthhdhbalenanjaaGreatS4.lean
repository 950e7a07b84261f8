/- Contracts: IndexFunc, ContainsFunc, all over a row of groups that lies in a level below. No condition. -/
import Derived.Test.YthhdhbalenanjaaGreatA2
open Go.Proofs.Tryz renaming prog->cw,func189->cx,underlying153->cz
open List renaming getElem?_eq_getElem->bj,getD_eq_getElem?_getD->bk,getElem_mem->bq,map_cons->bw,append_assoc->bx,map_append->bz,mem_cons_of_mem->bc,getElem?_append_left->bf,getElem?_eq_some_iff->bg,length_append->bh,mem_cons->bn,getElem?_eq_none->bp,nodup_cons->cj,map->cq
open Option renaming getD_some->bm
set_option maxRecDepth 100000
set_option linter.unusedSimpArgs false
open Go Go.Pg Go.Proofs Go.Wind
namespace Go.Proofs.Tryz.Op
def vN(U:List AA)(K:Nat)(f:FuncId)(cap:List V)(p:Sp->Bool)(xs:List Sp)(c0:Nat):Prop:=∀c x,c0<=c->x∈xs->∃c',c<=c'/\∀n fr,HQ (BL cw ann kn (n+K)) (some 16) ⟨c,fr,⟨U,[]⟩⟩ f (.agg (A6 x)::cap)=some ⟨c',(16,true,.bool (p x))::fr,⟨U,[]⟩⟩
structure nJ(U:List AA)(q γ:Nat)(xs:List Sp)(es:List (List V)):Prop where
 lv:∃L,U[q]? = some L/\L.get 921=some (γ,.vec 153 es)
 ln:xs.length<=es.length
 el:∀k (h:k<xs.length) (h2:k<es.length),es[k]=A6 xs[k]
theorem vO(K:Nat)(U:List AA)(f:FuncId)(cap:List V)(hcw:cap.map weakV=cap)(p:Sp->Bool)(xs:List Sp)(q γ:Nat)(es:List (List V))(hr:nJ U q γ xs es)(c0:Nat)(hp:vN U K f cap p xs c0)(hl:xs.length<=1000):∀(d k c:Nat),k+d=xs.length->c0<=c ->
  ∃(c':Nat) (j:Int),c<=c'/\0<=j/\∀n m,d<m->BT (AF cw ann kn (n+K+50) 19) SR (ann 19 (CA SR)) m ⟨c,[(0,true,.vec q 921 γ xs.length),(1,true,.fn f [] cap),(7,true,i xs.length),(8,true,i k)],⟨U,[]⟩⟩ =
   bif (xs.drop k).any p then some (.ret,⟨c',[(4,true,i j),(17,true,i j),(5,true,i j)],⟨U,[]⟩⟩)
   else some (.exit 0,⟨c',[(9,true,.bool false),(0,true,.vec q 921 γ xs.length),(1,true,.fn f [] cap),(7,true,i xs.length),(8,true,i xs.length)],⟨U,[]⟩⟩)
 |0,k,c,hd,hc0=>by
  have:k=xs.length:=by omega
  subst this;refine⟨c,0,Nat.le_refl _,by omega,fun n m hm=>?_⟩;obtain⟨m,rfl⟩:=qNz m (by omega);simp[AB]
 |d+1,k,c,hd,hc0=>by
  have hk:k<xs.length:=by omega
  have hw:=CB (k:=k) (by omega);have nrm:∀n a:Nat,n+K+a=(n+a)+K:=fun n a=>by omega
  obtain⟨L,hU,hL⟩:=hr.lv;have hln:=hr.ln;have hke:k<es.length:=by omega
  have hel:=hr.el k hk hke;have hq:¬q=U.length:=fun e=>by rw[e]at hU;simp at hU
  rw[List.drop_eq_getElem_cons hk,List.any_cons];obtain⟨c1,hc1,qq⟩:=hp c xs[k] hc0 (bq hk);have qq:=fun n=>qq (n+43) [(15,true,.agg (A6 xs[k])),(14,true,.eptr q 921 γ k 0),(13,true,i k),(12,true,.vec q 921 γ xs.length),(11,true,.fn f [] cap),(0,true,.vec q 921 γ xs.length),(1,true,.fn f [] cap),(5,true,i k),(7,true,i xs.length),(8,true,i k)];simp only[<-nrm]at qq;generalize e:p xs[k]=b at qq;cases b with
  |true=>
   refine⟨c1,k,hc1,by omega,fun n m hm=>?_⟩
   obtain⟨m,rfl⟩:=qNz m (by omega)
   have qq:=qq n
   rw[AB]
   try simp only[A6]at qq hel
   try simp at qq
   simp[hk,hw,A6,qq,hcw,hU,hL,hke,hel,hq,hln]
  |false=>
   obtain⟨c',j,h1,h2,ih⟩:=vO K U f cap hcw p xs q γ es hr c0 hp hl d (k+1) c1 (by omega) (by omega)
   refine⟨c',j,by omega,h2,fun n m hm=>?_⟩
   obtain⟨m,rfl⟩:=qNz m (by omega)
   have qq:=qq n
   have ih:=ih n m (by omega)
   rw[AB]
   try simp only[A6]at qq ih hel
   try simp at qq
   simp at ih
   simp[hk,hw,A6,qq,ih,hcw,hU,hL,hke,hel,hq,hln]
def StU(U:List AA):Prop:=∀t:St,U.length<=t.up.length->U.map (AJ t)=U
theorem AKU(K:Nat)(U:List AA)(loc:AA)(f:FuncId)(cap:List V)(hcw:cap.map weakV=cap)(hco:cap.all (AG 8)=false)(p:Sp->Bool)(xs:List Sp)(q γ:Nat)(es:List (List V))(hr:nJ (U++[loc]) q γ xs es)(c0:Nat)(hp:vN (U++[loc]) K f cap p xs c0)(hl:xs.length<=40)(hsh:StU (U++[loc]))(c:Nat)(hc0:c0<=c) :
  ∃(c':Nat) (j:Int),c<=c'/\decide (0<=j)=xs.any p/\∀n dd fr,HQ (BL cw ann kn (n+K+100)) (some dd) ⟨c,fr,⟨U,loc⟩⟩ 189 [.vec q 921 γ xs.length,.fn f [] cap]=some ⟨c',(dd,true,i j)::fr,⟨U,loc⟩⟩:=by
 obtain⟨c1,j,h1,h2,qq⟩:=vO K (U++[loc]) f cap hcw p xs q γ es hr c0 hp (by omega) xs.length 0 c (by omega) hc0
 have qq:=fun n=>qq (n+45) (n+K+95) (by omega)
 have e:∀n,n+45+K+50=n+K+95:=fun n=>by omega
 simp only[e]at qq
 have hcl:([V.vec q 921 γ xs.length,V.fn f [] cap]).all (AG 9)=false:=by simp[hco]
 have hs:=hsh ⟨U++[loc],[]⟩ (by simp)
 simp at hs
 simp only[List.drop_zero]at qq
 generalize e:xs.any p=b at qq
 cases b with
 |true=>
  refine⟨c1,j,h1,by simpa using h2,fun n dd fr=>?_⟩
  rw[A5 cx b189 rfl hcl]
  simp at qq
  simp[AI0,AD,qq,hs]
 |false=>
  refine⟨c1,-1,h1,by simp,fun n dd fr=>?_⟩
  rw[A5 cx b189 rfl hcl]
  simp at qq
  simp[AI0,AD,qq,hs]
theorem A3Y(K:Nat)(U:List AA)(loc:AA)(f:FuncId)(cap:List V)(hcw:cap.map weakV=cap)(hco:cap.all (AG 8)=false)(p:Sp->Bool)(xs:List Sp)(q γ:Nat)(es:List (List V))(hr:nJ (U++[loc]) q γ xs es)(c0:Nat)(hp:vN (U++[loc]++[[]]) K f cap p xs c0)(hl:xs.length<=40)(hsh:StU (U++[loc]))(c:Nat)(hc0:c0<=c) :
  ∃c':Nat,c<=c'/\∀n dd fr,HQ (BL cw ann kn (n+K+200)) (some dd) ⟨c,fr,⟨U,loc⟩⟩ 171 [.vec q 921 γ xs.length,.fn f [] cap]=some ⟨c',(dd,true,.bool (xs.any p))::fr,⟨U,loc⟩⟩:=by
 have hcl:([V.vec q 921 γ xs.length,V.fn f [] cap]).all (AG 9)=false:=by simp[hco]
 have hsh2:StU (U++[loc]++[[]]):=fun t h=>by have:=hsh t (by simp at h|-;omega);rw[bz,this];rfl
 have hr2:nJ (U++[loc]++[[]]) q γ xs es:=by obtain⟨⟨L,h1,h2⟩,h3,h4⟩:=hr;exact⟨⟨L,by rw[bf];exact h1;exact(bg.1 h1).1,h2⟩,h3,h4⟩
 obtain⟨c1,j,h1,h2,qq⟩:=AKU K (U++[loc]) [] f cap hcw hco p xs q γ es hr2 c0 hp hl hsh2 c hc0
 refine⟨c1,h1,fun n dd fr=>?_⟩
 have qq:=qq (n+97) 7 [(6,true,.fn f [] cap),(5,true,.vec q 921 γ xs.length),(0,true,.vec q 921 γ xs.length),(1,true,.fn f [] cap)]
 have e:n+97+K+100=n+K+197:=by omega
 rw[e]at qq
 have hs:=hsh ⟨U++[loc],[]⟩ (by simp)
 simp at hs
 rw[A5 Tryz.func171 b171 rfl hcl]
 simp[APU,AD,hcw,qq,h2,hs]
theorem A3Z(K:Nat)(U:List AA)(loc:AA)(f:FuncId)(cap:List V)(hcw:cap.map weakV=cap)(hco:cap.all (AG 8)=false)(p:Sp->Bool)(xs:List Sp)(q γ:Nat)(es:List (List V))(hr:nJ (U++[loc]) q γ xs es)(hl:xs.length<=40)(hsh:StU (U++[loc]))(c:Nat)(hcap:∀t:St,U.length+1<=t.up.length->AJ t [(3,c,AX.box [V.fn f [] cap])]=[(3,c,AX.box [V.fn f [] cap])])
  (hp:∀c1 γ x,c<c1->x∈xs->∃c',c1<=c'/\∀n fr,HQ (BL cw ann kn (n+K)) (some 6) ⟨c1,fr,⟨U++[loc]++[[(3,c,AX.box [V.fn f [] cap])]]++[[]]++[[]],[(2,γ,.box (A6 x))]⟩⟩ f (.agg (A6 x)::cap)=some ⟨c',(6,true,.bool (p x))::fr,⟨U++[loc]++[[(3,c,AX.box [V.fn f [] cap])]]++[[]]++[[]],[(2,γ,.box (A6 x))]⟩⟩) :
  ∃c':Nat,c<=c'/\∀n dd fr,HQ (BL cw ann kn (n+K+300)) (some dd) ⟨c,fr,⟨U,loc⟩⟩ 137 [.vec q 921 γ xs.length,.fn f [] cap]=some ⟨c',(dd,true,.bool (xs.all p))::fr,⟨U,loc⟩⟩:=by
 have hcl:([V.vec q 921 γ xs.length,V.fn f [] cap]).all (AG 9)=false:=by simp[hco]
 have hp2:vN (U++[loc]++[[(3,c,AX.box [V.fn f [] cap])]]++[[]]) (K+20) 172 [.ptr (U.length+1) 3 c 0] (fun x=>!p x) xs (c+1):=by
  intro c1 x hc0 hx;obtain⟨c',h2,qq⟩:=hp (c1+1) c1 x (by omega) hx;refine⟨c',by omega,fun n fr=>?_⟩;have qq:=qq (n+17) [(5,true,.agg (A6 x)),(4,true,.fn f [] cap),(0,true,.agg (A6 x)),(1,true,.ptr (U.length+1) 3 c 0),(2,true,.ptr (U.length+4) 2 c1 0)];have e:n+17+K=n+K+17:=by omega
  rw[e]at qq;rw[show n+(K+20)=n+K+20 from by omega,A5 Tryz.func172 b172 rfl (by simp)];generalize hB:[(3,c,AX.box [V.fn f [] cap])]=B at qq hcap;have hB1:AA.get B 3=some (c,.box [.fn f [] cap]):=by rw[<-hB];rfl
  have hg:(U++[loc]++[B]++[[]])[U.length+1]? = some B:=by simp only[bx];rw[List.getElem?_append_right (by omega)];simp
  have hs1:∀t:St,U.length+1<=t.up.length->cq (AJ t) U=U/\AJ t loc=loc:=fun t h=>by have:=hsh t (by simpa using h);simpa using this
  have hu:∀(l:List AA) a b,B5 (l++[a,b,[],[]])=some (l++[a,b,[]],[]):=fun l a b=>by have:=unsnoc_snoc ([]:AA) (l++[a,b,[]]);rwa [bx]at this
  simp only[bx,List.cons_append,List.nil_append,A6]at qq hg|-;simp[hu,A10,AD,hcw,qq,hg,hB1,(hs1 _ _).1,(hs1 _ _).2,hcap]
 have hsh2:StU (U++[loc]++[[(3,c,AX.box [V.fn f [] cap])]]):=fun t h=>by
  have h':U.length+1<=t.up.length:=by simp at h;omega
  have:=hsh t (by simpa using h');rw[bz,this];simp only[bw,List.map_nil,hcap t h']
 have hr2:nJ (U++[loc]++[[(3,c,AX.box [V.fn f [] cap])]]) q γ xs es:=by obtain⟨⟨L,h1,h2⟩,h3,h4⟩:=hr;exact⟨⟨L,by rw[bf];exact h1;exact(bg.1 h1).1,h2⟩,h3,h4⟩
 obtain⟨c',h1,qq⟩:=A3Y (K+20) (U++[loc]) [(3,c,AX.box [V.fn f [] cap])] 172 [.ptr (U.length+1) 3 c 0] (by simp) (by simp) (fun x=>!p x) xs q γ es hr2 (c+1) hp2 hl hsh2 (c+1) (Nat.le_refl _)
 refine⟨c',by omega,fun n dd fr=>?_⟩
 have qq:=qq (n+77) 7 [(6,true,.fn 172 [] [.ptr (U.length+1) 3 c 0]),(5,true,.vec q 921 γ xs.length),(0,true,.vec q 921 γ xs.length),(1,true,.fn f [] cap),(3,true,.ptr (U.length+1) 3 c 0)]
 have e:n+77+(K+20)+200=n+K+297:=by omega
 rw[e]at qq
 have hs1:∀t:St,U.length+1<=t.up.length->cq (AJ t) U=U/\AJ t loc=loc:=fun t h=>by have:=hsh t (by simpa using h);simpa using this
 have hny:(!(xs.any fun x=>!p x))=xs.all p:=by rw[List.not_any_eq_all_not];simp
 rw[A5 Tryz.func137 b137 rfl hcl,<-hny]
 try simp only[bh,List.length_cons,List.length_nil]at qq|-
 simp[APV,AD,hcw,qq,(hs1 _ _).1,(hs1 _ _).2]
def okX(x:Sp):Prop:=NJ (x.fam:Int)/\NJ x.size/\NJ x.row/\NJ x.place
def CM(s:BW):List V:=[i s.sun,i s.carried,.bool s.enough]
def IA(p:Sp×BW):V×V:=(.agg (A6 p.1),.agg (CM p.2))
theorem kI5(d:Nat){n:Int}(h:NJ n):Program.keyLits cw (d+1) 3 [.int .i64 n]=some [.int .i64 n]:=by unfold Program.keyLits;simp[Tryz.underlying3,wfI h]
theorem kGr(d:Nat){a b:Int}(ha:NJ a)(hb:NJ b):Program.keyLits cw (d+2) 151 [.int .i64 a,.int .i64 b]=some [.int .i64 a,.int .i64 b]:=by unfold Program.keyLits;simp[Tryz.underlying151,kI5 d ha,kI5 d hb]
theorem kWS(d:Nat){a b:Int}(ha:NJ a)(hb:NJ b):Program.keyLits cw (d+2) 86 [.int .i64 a,.int .i64 b]=some [.int .i64 a,.int .i64 b]:=by unfold Program.keyLits;simp[Tryz.underlying86,kI5 d ha,kI5 d hb]
theorem kSS(d:Nat){a b c e:Int}(ha:NJ a)(hb:NJ b)(hc:NJ c)(he:NJ e):(Program.keyLits cw (d+3) 153 [.int .i64 a,.int .i64 b,.int .i64 c,.int .i64 e]).isSome=true:=by unfold Program.keyLits;simp[cz,kGr d ha hb,kWS d hc he]
theorem ARW:cw.types.size+1=(cw.types.size-2)+3:=by have:2<=cw.types.size:=of_decide_eq_true (by kernel_rfl);omega
theorem ANI:xR cw 153=true:=by kernel_rfl
theorem ARX:cw.keyType 153=true:=by kernel_rfl
theorem AFL(x:Sp)(h:okX x):W7 cw 153 (.agg (A6 x))=some (A6 x):=by
 obtain⟨h1,h2,h3,h4⟩:=h;have q:=kSS (cw.types.size-2) h1 h2 h3 h4;rw[<-ARW]at q;have hf:(Value.agg #[.int .i64 (x.fam:Int),.int .i64 x.size,.int .i64 x.row,.int .i64 x.place]).formed cw 153=true:=by unfold Value.formed;simp[cz]
 have hko:(keyOf cw 153 (.agg #[.int .i64 (x.fam:Int),.int .i64 x.size,.int .i64 x.row,.int .i64 x.place])).isSome=true:=by unfold keyOf;rw[cz];simp only;rw[if_pos (by rw[ARX,hf];rfl),Option.isSome_map];exact q
 have hp:EF (A6 x)=some [.int .i64 (x.fam:Int),.int .i64 x.size,.int .i64 x.row,.int .i64 x.place]:=rfl;unfold W7;simp only[hp];rw[if_pos hko]
theorem fA(x:Sp):A6 x=[(x.fam:Int),x.size,x.row,x.place].map i:=rfl
theorem nK:∀(x y:List Int),x.length=y.length->eqC (x.map i) (y.map i)=some (x==y)
 |[],[],_=>rfl
 |a::x,b::y,h=>by have ih:=nK x y (by simpa using h);simp only[bw];show(if IntKind.i64=IntKind.i64 then(match eqC (x.map i) (y.map i)with|some r=>some ((a==b)&&r)|none=>none) else none)=_;rw[if_pos rfl,ih];rfl
theorem A30(x y:Sp):eqC (A6 x) (A6 y)=some (decide (x=y)):=by
 rw[fA x,fA y,nK [(x.fam:Int),x.size,x.row,x.place] [(y.fam:Int),y.size,y.row,y.place] rfl];congr 1;rw[Bool.eq_iff_iff];simp only[beq_iff_eq,decide_eq_true_eq,List.cons.injEq,and_true];constructor
 ·rintro ⟨h1,h2,h3,h4⟩;obtain⟨a,b,c,d⟩:=x;obtain⟨a',b',c',d'⟩:=y;simp only at h1 h2 h3 h4;have:a=a':=by omega
  subst this h2 h3 h4;rfl
 ·rintro rfl;exact⟨rfl,rfl,rfl,rfl⟩
def dD(m:Sp):List (Sp×BW)->Nat->List Nat
 |[],_=>[]
 |p::L,j=>if p.1=m then j::dD m L (j+1) else dD m L (j+1)
theorem iR(m:Sp):∀(L:List (Sp×BW)) (j:Nat),(∀p∈L,okX p.1)->NO cw 153 (A6 m) (L.map IA) j=some (dD m L j)
 |[],_,_=>rfl
 |p::L,j,h=>by have ih:=iR m L (j+1) (fun q hq=>h q (by simp[hq]));simp only[bw,IA,NO,AFL p.1 (h p (by simp)),A30 p.1 m];have ih':NO cw 153 (A6 m) (cq IA L) (j+1)=some (dD m L (j+1)):=ih;rw[ih'];simp[dD]
def ML(m:Sp):List (Sp×BW)->Option BW
 |[]=>none
 |p::L=>if p.1=m then some p.2 else ML m L
def PB(m:Sp)(b:BW):List (Sp×BW)->List (Sp×BW)
 |[]=>[(m,b)]
 |p::L=>if p.1=m then(m,b)::L else p::PB m b L
structure iS(c:AU)(L:List (Sp×BW)):Prop where
 ok:∀p∈L,okX p.1
 nd:(L.map (·.1)).Nodup
 so:∀p∈L,p.2=BU c (AV c) p.1
theorem fB{m:Sp}{s:BW}:∀{L:List (Sp×BW)},ML m L=some s->(m,s)∈L
 |[],h=>by cases h
 |p::L,h=>by
  unfold ML at h;split at h
  ·rename_i e;cases h;subst e;simp
  ·exact bc _ (fB h)
theorem T9{m:Sp}{b:BW}{q:Sp×BW}:∀{L:List (Sp×BW)},q∈PB m b L->q=(m,b)\/q∈L
 |[],h=>by simp only[PB,List.mem_singleton]at h;exact .inl h
 |p::L,h=>by
  unfold PB at h;split at h
  ·rcases bn.1 h with h|h
   ·exact .inl h
   ·exact .inr (bc _ h)
  ·rcases bn.1 h with rfl|h
   ·exact .inr (by simp)
   ·rcases T9 h with h|h
    ·exact .inl h
    ·exact .inr (bc _ h)
theorem zL(m:Sp)(b:BW):∀L,∀q∈(PB m b L).map (·.1),q=m\/q∈L.map (·.1):=fun L q hq=>by
 obtain⟨p,hp,rfl⟩:=List.mem_map.1 hq;rcases T9 hp with rfl|h
 ·exact .inl rfl
 ·exact .inr (List.mem_map_of_mem h)
theorem vP(m:Sp)(b:BW):∀{L:List (Sp×BW)},(L.map (·.1)).Nodup->((PB m b L).map (·.1)).Nodup
 |[],_=>by simp[PB]
 |p::L,h=>by
  have h2:=cj.1 h;have ih:=vP m b (L:=L) h2.2;unfold PB;split
  ·rename_i e;simp only[bw]at h|-;rwa [<-e]
  ·rename_i e;simp only[bw,cj];refine⟨fun hh=>?_,ih⟩;rcases zL m b L _ hh with h3|h3
   ·exact e h3
   ·exact h2.1 h3
theorem iS.upd{c:AU}{m:Sp}{L:List (Sp×BW)}(h:iS c L)(hm:okX m):iS c (PB m (BU c (AV c) m) L):=by
 refine⟨fun p hp=>?_,vP _ _ h.nd,fun p hp=>?_⟩
 ·rcases T9 hp with rfl|hp
  ·exact hm
  ·exact h.ok p hp
 ·rcases T9 hp with rfl|hp
  ·rfl
  ·exact h.so p hp
theorem PZ(m:Sp):∀(L:List (Sp×BW)) (j:Nat),m∉L.map (·.1)->dD m L j=[]/\ML m L=none/\∀b,PB m b L=L++[(m,b)]
 |[],j,_=>⟨rfl,rfl,fun _=>rfl⟩
 |p::L,j,h=>by simp only[bw,bn,not_or]at h;obtain⟨i1,i2,i3⟩:=PZ m L (j+1) h.2;have hp:¬p.1=m:=fun hh=>h.1 hh.symm;exact⟨by simp[dD,hp,i1],by simp[ML,hp,i2],fun b=>by simp[PB,hp,i3]⟩
theorem VT(m:Sp):∀(L:List (Sp×BW)) (j:Nat),m∈L.map (·.1)->(L.map (·.1)).Nodup->∃k,dD m L j=[j+k]/\(∃b,L[k]? = some (m,b)/\ML m L=some b)/\∀b,PB m b L=L.set k (m,b)
 |p::L,j,h,hn=>by
  simp only[bw,cj]at hn;by_cases hp:p.1=m
  ·refine⟨0,?_,⟨p.2,?_,?_⟩,fun b=>?_⟩
   ·simp[dD,hp,(PZ m L (j+1) (by rw[<-hp];exact hn.1)).1]
   ·simp[<-hp]
   ·simp[ML,hp]
   ·simp[PB,hp]
  ·simp only[bw,bn]at h;obtain⟨k,i1,⟨b,i2,i3⟩,i4⟩:=VT m L (j+1) (h.resolve_left fun hh=>hp hh.symm) hn.2;refine⟨k+1,?_,⟨b,?_,?_⟩,fun b=>?_⟩
   ·simp[dD,hp,i1];omega
   ·simpa using i2
   ·simp[ML,hp,i3]
   ·simp[PB,hp,i4]
theorem AFM(s:St)(x:Sp):BV s (.agg (A6 x))=some (.agg (A6 x)):=rfl
theorem AFN(s:St)(x:BW):BV s (.agg (CM x))=some (.agg (CM x)):=rfl
theorem vQ(s:St)(L:List (Sp×BW)):CG s (.map (L.map IA))=.map (L.map IA):=by
 have:B7 s (.map (L.map IA))=some (.map (L.map IA)):=by unfold B7;simp only;rw[NH];intro x hx;simp only[List.mem_map]at hx;obtain⟨p,hp,rfl⟩:=hx;simp only[IA,AFM,AFN]
 unfold CG;rw[this]
theorem ANJ:ADT cw 173=some (153,158):=by kernel_rfl
theorem AKV:U2 cw 158=some (.agg [i 0,i 0,.bool false]):=by kernel_rfl
theorem A31{s:St}{l q g:Nat}{c:AU}{L:List (Sp×BW)}{m:Sp}(hs:s.get l q=some (g,.map (L.map IA)))(hL:iS c L)(hm:okX m) :
  DT cw s 173 (.mp l q g) (.agg (A6 m)) true=some (.tup [.agg (CM ((ML m L).getD ⟨0,0,false⟩)),.bool (ML m L).isSome]):=by
 unfold DT
 simp only[ANJ,hs,ANI,AFL m hm,iR m L 0 hL.ok,and_self,if_true]
 by_cases h:m∈L.map (·.1)
 ·obtain⟨k,i1,⟨b,i2,i3⟩,_⟩:=VT m L 0 h hL.nd;simp[i1,i2,i3,IA]
 ·obtain⟨i1,i2,_⟩:=PZ m L 0 h;simp[i1,i2,AKV,CM]
theorem BEK{s:St}{l q g:Nat}{c:AU}{L:List (Sp×BW)}{m:Sp}{b:BW}(hs:s.get l q=some (g,.map (L.map IA)))(hL:iS c L)(hm:okX m) :
  ME cw s 173 (.mp l q g) (.agg (A6 m)) (.agg (CM b))=some (l,q,g,(PB m b L).map IA):=by
 unfold ME
 simp only[ANJ,hs,ANI,AFL m hm,iR m L 0 hL.ok,and_self,if_true]
 by_cases h:m∈L.map (·.1)
 ·obtain⟨k,i1,_,i4⟩:=VT m L 0 h hL.nd;simp[i1,i4,IA]
 ·obtain⟨i1,_,i4⟩:=PZ m L 0 h;simp[i1,i4,IA]
end Go.Proofs.Tryz.Op
namespace Go.Wind
def oN(c:AU)(sure:List (List Int))(x:Sp)(k:Nat):BW :=
 ⟨HS (fun p=>GJ sure x.row (x.place+(p:Int))) k,HS (fun p=>if F6 c x.row (x.place+(p:Int))=true then 0 else 1) k,(List.range k).all fun p=>decide ((DS c x.fam).good<=GJ sure x.row (x.place+(p:Int)))⟩
theorem AKW(c:AU)(sure:List (List Int))(x:Sp):oN c sure x x.size.toNat=BU c sure x:=rfl
theorem nL(c:AU)(sure:List (List Int))(x:Sp)(k:Nat):oN c sure x (k+1)=⟨(oN c sure x k).sun+GJ sure x.row (x.place+(k:Int)),(oN c sure x k).carried+(if F6 c x.row (x.place+(k:Int))=true then 0 else 1),(oN c sure x k).enough&&decide ((DS c x.fam).good<=GJ sure x.row (x.place+(k:Int)))⟩:=by unfold oN;rw[List.range_succ,List.all_append];simp[HS]
end Go.Wind
namespace Go.Proofs.Tryz.Op
theorem rS{c:AU}(hc:CW c){f r p:Nat}{z:Int}:∀k,0<=(oN c (AV c) ⟨f,z,(r:Int),(p:Int)⟩ k).sun/\(oN c (AV c) ⟨f,z,(r:Int),(p:Int)⟩ k).sun<=5*k/\0<=(oN c (AV c) ⟨f,z,(r:Int),(p:Int)⟩ k).carried/\(oN c (AV c) ⟨f,z,(r:Int),(p:Int)⟩ k).carried<=k
 |0=>by simp[oN,HS]
 |k+1=>by
  have ih:=rS hc (f:=f) (r:=r) (p:=p) (z:=z) k;rw[nL];have h1:0<=GJ (AV c) (r:Int) ((p:Int)+(k:Int))/\GJ (AV c) (r:Int) ((p:Int)+(k:Int))<=5:=by
   unfold GJ;rw[bk,bk];by_cases hr:(r:Int).toNat<(AV c).length
   ·rw[bj hr];have:=jM hc _ (bq hr);by_cases hp:((p:Int)+(k:Int)).toNat<((AV c)[(r:Int).toNat]).length
    ·simp only[bm,bj hp];exact this.2 _ (bq hp)
    ·simp only[bm,bp (Nat.le_of_not_lt hp)];decide
   ·rw[bp (Nat.le_of_not_lt hr)];simp
  simp only at ih|-;split<;>omega
theorem A32(c:AU)(hc:CW c)(γ:Nat)(L:AA)(hL:L.get 911=some (γ+1,.box (DH c γ)))(R:List AA)(g:Nat)(f r p:Nat)(z:Int)(hf:f<c.fams.length)(hz:0<=z/\z<=4)(hr:(r:Int)<c.beach.rows)(hp:(p:Int)+z<=c.beach.places)(B4:AX):∀(d k cc:Nat),k+d=z.toNat->g+2<cc->∃fr,BS fr 0=some (true,.ptr 0 911 (γ+1) 0)/\BS fr 3=some (true,.ptr (R.length+1) 3 g 0)/\BS fr 4=some (true,.ptr (R.length+1) 4 (g+1) 0)/\BS fr 5=some (true,.ptr (R.length+1) 5 (g+2) 0) /\
  ∀n m,d<m->BT (AF cw ann kn (n+400) 94) S4 (ann 94 (CA S4)) m ⟨cc,[(0,true,.ptr 0 911 (γ+1) 0),(3,true,.ptr (R.length+1) 3 g 0),(4,true,.ptr (R.length+1) 4 (g+1) 0),(5,true,.ptr (R.length+1) 5 (g+2) 0),(7,true,i ((p:Int)+(k:Int)))],⟨L::R,[(3,g,.box (A6 ⟨f,z,(r:Int),(p:Int)⟩)),(4,g+1,B4),(5,g+2,.box (CM (oN c (AV c) ⟨f,z,(r:Int),(p:Int)⟩ k)))]⟩⟩ =
   some (.exit 0,⟨cc,fr,⟨L::R,[(3,g,.box (A6 ⟨f,z,(r:Int),(p:Int)⟩)),(4,g+1,B4),(5,g+2,.box (CM (BU c (AV c) ⟨f,z,(r:Int),(p:Int)⟩)))]⟩⟩)
 |0,k,cc,hd,hcc=>by
  obtain rfl:k=z.toNat:=by omega
  have hz2:(z.toNat:Int)=z:=by omega
  have hpl:=hc.be.pl;rw[<-AKW];have hzz:(⟨f,z,(r:Int),(p:Int)⟩:Sp).size.toNat=z.toNat:=rfl;rw[hzz];generalize oN c (AV c) ⟨f,z,(r:Int),(p:Int)⟩ z.toNat=S;rw[hz2];have w1:IntKind.i64.wrap ((p:Int)+z)=(p:Int)+z:=AY (by omega) (by omega);refine⟨?fr,?g1,?g2,?g3,?g4,fun n m hm=>?g9⟩;case g9=>
   obtain⟨m,rfl⟩:=qNz m (by omega)
   rw[AB]
   simp[A6,CM,w1]
   rfl
  all_goals simp
 |d+1,k,cc,hd,hcc=>by
  have hpl:=hc.be.pl;have hro:=hc.be.ro;have w1:IntKind.i64.wrap ((p:Int)+z)=(p:Int)+z:=AY (by omega) (by omega);have w2:IntKind.i64.wrap ((p:Int)+(k:Int)+1)=(p:Int)+((k+1:Nat):Int):=by rw[AY (by omega) (by omega)];omega
  have hlt:(k:Int)<z:=by omega
  have hr5:r<(AV c).length:=by rw[wX];omega
  have hrow:=jM hc _ (bq hr5);have hpk:p+k<((AV c)[r]).length:=by omega
  have hcr:r<c.chairs.length:=by have:=hc.ch;omega
  have hcl:=hc.cr _ (bq hcr);have hpc:p+k<(c.chairs[r]).length:=by omega
  have hb:=rS hc (f:=f) (r:=r) (p:=p) (z:=z) k;have hs1:GJ (AV c) (r:Int) ((p:Int)+(k:Int))=((AV c)[r])[p+k]:=by
   have e:((p:Int)+(k:Int)).toNat=p+k:=by omega
   unfold GJ;rw[bk,bk,Int.toNat_natCast,bj hr5,e];simp only[bm,bj hpk]
  have hc1:F6 c (r:Int) ((p:Int)+(k:Int))=(c.chairs[r])[p+k]:=by
   have e:((p:Int)+(k:Int)).toNat=p+k:=by omega
   unfold F6;rw[bk,bk,Int.toNat_natCast,bj hcr,e];simp only[bm,bj hpc]
  have hv:=hrow.2 _ (bq hpk);have hfm:DS c f=c.fams[f]:=by simp[DS,bj hf]
  obtain⟨fr,e0,e3,e4,e5,ih⟩:=A32 c hc γ L hL R g f r p z hf hz hr hp B4 d (k+1) cc (by omega) hcc;refine⟨fr,e0,e3,e4,e5,fun n m hm=>?_⟩;obtain⟨m,rfl⟩:=qNz m (by omega);have ih:=ih n m (by omega);rw[nL]at ih;simp only[hs1,hc1,hfm]at ih;generalize BU c (AV c) ⟨f,z,(r:Int),(p:Int)⟩=FIN at *;generalize oN c (AV c) ⟨f,z,(r:Int),(p:Int)⟩ k=S at *;obtain⟨sn,cr,en⟩:=S;simp only at ih hb;have w3:IntKind.i64.wrap (sn+((AV c)[r])[p+k])=sn+((AV c)[r])[p+k]:=AY (by omega) (by omega);have w4:IntKind.i64.wrap (cr+1)=cr+1:=AY (by omega) (by omega);have hp0:(0:Int)<=(p:Int)+(k:Int):=by omega
  have hp1:(p:Int)+(k:Int)<5:=by omega
  have hp2:((p:Int)+(k:Int)).toNat=p+k:=by omega
  have hp3:(p:Int)+(k:Int)<((c.chairs[r]).length:Int):=by omega
  have hlen5:((AV c)[r]).length=5:=hrow.1;have hgo:=bj hpk;generalize ((AV c)[r])[p+k]=V at *;generalize hGD:decide ((c.fams[f]).good<=V)=G at ih;generalize hCH:(c.chairs[r])[p+k]=C at *;rw[AB];simp only[DH,AE]at hL;simp only[A6,CM]at ih|-;cases en<;>cases G<;>cases C<;>(simp at ih;simp[hL,w1,w2,w3,w4,hlt,hr5,hcr,hf,hp0,hp1,hp2,hp3,hpk,hpc,hlen5,hGD,hCH,hgo,hcc,encA,AO,AZ,AP,DJ,AW,ih])
structure Lw(c:AU)(γ:Nat)(B L:AA):Prop where
 p0:∃T,iS c T/\L.get 910=some (γ,.map (T.map IA))
 p1:L.get 911=some (γ+1,.box (DH c γ))
 st:∀t:St,1<=t.up.length->AJ t L=L
 ot:∀k,¬k=910->L.get k=B.get k
theorem Lw.put{c:AU}{γ:Nat}{B L:AA}(h:Lw c γ B L){T:List (Sp×BW)}(h1:iS c T):Lw c γ B ((910,γ,.map (T.map IA))::L) where
 p0:=⟨T,h1,by simp⟩
 p1:=by simpa using h.p1
 st:=fun t ht=>by rw[A4,h.st t ht,vQ t T]
 ot:=fun k h1=>by rw[<-h.ot k h1];simp[h1]
theorem AKX(c:AU)(hc:CW c)(γ:Nat)(B:AA)(f r p:Nat)(z:Int)(hf:f<c.fams.length)(hz:0<=z/\z<=4)(hr:(r:Int)<c.beach.rows)(hp:(p:Int)+z<=c.beach.places)(L:AA)(hL:Lw c γ B L)(rs:List AA)(loc:AA)(hst:E0 (rs++[loc]))(cc:Nat)(hcc:γ+1<cc) :
  ∃L' c',Lw c γ B L'/\cc<=c'/\∀n dd fr,HQ (BL cw ann kn (n+600)) (some dd) ⟨cc,fr,⟨L::rs,loc⟩⟩ 129 [.ptr 0 911 (γ+1) 0,.agg (A6 ⟨f,z,(r:Int),(p:Int)⟩)]=some ⟨c',(dd,true,.agg (CM (BU c (AV c) ⟨f,z,(r:Int),(p:Int)⟩)))::fr,⟨L'::rs,loc⟩⟩:=by
 obtain⟨T,a1,a2⟩:=hL.p0
 have p1:=hL.p1
 have hfl:=hc.fl
 have hro:=hc.be.ro
 have hpl:=hc.be.pl
 have hK:okX ⟨f,z,(r:Int),(p:Int)⟩:=⟨P3 (by simp only;omega),P3 (by simp only;omega),P3 (by simp only;omega),P3 (by simp only;omega)⟩
 have ql:∀(R:List AA) (lo:AA),DT cw ⟨L::R,lo⟩ 173 (.mp 0 910 γ) (.agg (A6 ⟨f,z,(r:Int),(p:Int)⟩)) true=some (.tup [.agg (CM ((ML ⟨f,z,(r:Int),(p:Int)⟩ T).getD ⟨0,0,false⟩)),.bool (ML ⟨f,z,(r:Int),(p:Int)⟩ T).isSome]):=fun R lo=>A31 (by simpa using a2) a1 hK
 have hs1:=fun t:St=>fun h=>hst t h
 have sL:=hL.st
 have hb3:Nat.beq 3 1=false:=rfl
 have hγ:γ<cc+3:=by omega
 cases hlk:ML ⟨f,z,(r:Int),(p:Int)⟩ T with
 |some v=>
  rw[hlk]at ql
  have hv:=a1.so _ (fB hlk)
  simp only at hv
  subst hv
  refine⟨L,cc+3,hL,by omega,fun n dd fr=>?_⟩
  rw[A5 Tryz.func129 b129 rfl (by simp)]
  generalize BU c (AV c) ⟨f,z,(r:Int),(p:Int)⟩=S at *
  simp only[DH,AE,A6,CM]at p1 ql|-
  simp at ql
  simp[APY,AD,p1,ql,sL,hs1,DJ,C8,BJ,BH,A0,hb3]
 |none=>
  rw[hlk]at ql
  have hL':=hL.put (a1.upd hK)
  have qu:∀(R:List AA) (lo:AA),ME cw ⟨L::R,lo⟩ 173 (.mp 0 910 γ) (.agg (A6 ⟨f,z,(r:Int),(p:Int)⟩)) (.agg (CM (BU c (AV c) ⟨f,z,(r:Int),(p:Int)⟩)))=some (0,910,γ,(PB ⟨f,z,(r:Int),(p:Int)⟩ (BU c (AV c) ⟨f,z,(r:Int),(p:Int)⟩) T).map IA):=fun R lo=>BEK (by simpa using a2) a1 hK
  obtain⟨fr1,e0,e3,e4,e5,qq⟩:=A32 c hc γ L p1 (rs++[loc]) cc f r p z hf hz hr hp (.box [i 0,i 0,.bool false]) z.toNat 0 (cc+3) (by omega) (by omega)
  have qq:=fun n m=>qq n (m+100) (by omega)
  rw[show oN c (AV c) ⟨f,z,(r:Int),(p:Int)⟩ 0=⟨0,0,true⟩ from rfl]at qq
  have hsh:=fun t:St=>hL'.st t
  generalize (PB ⟨f,z,(r:Int),(p:Int)⟩ (BU c (AV c) ⟨f,z,(r:Int),(p:Int)⟩) T).map IA=TT at qu hL' hsh
  refine⟨_,cc+3,hL',by omega,fun n dd fr=>?_⟩
  rw[A5 Tryz.func129 b129 rfl (by simp)]
  have hu1:=fun c fr s es=>AFX (c:=c) (fr:=fr) (s:=s) 0 910 γ es
  generalize BU c (AV c) ⟨f,z,(r:Int),(p:Int)⟩=S at *
  simp only[DH,AE,A6,CM]at p1 ql qu qq|-
  simp at ql qq
  simp[APY,AD,p1,ql,qu,hu1,qq,e0,e3,e4,e5,sL,hsh,hs1,DJ,C8,BJ,BH,A0,hb3,hγ]
theorem dE(a z:Option V):orK false a z=z:=by cases a<;>rfl
theorem dF(d c:Nat)(fr:Fr)(s:St)(z:Option XS):oc2 d c fr s none z=z:=rfl
@[simp] theorem A33:GL cw 129=false:=by kernel_rfl
theorem AFO(rec:HD)(l k g o:Nat)(a:V):BA cw kn rec 129 [.ptr l k g o,a]=none:=by rw[AR rfl];unfold EZ;rw[show([V.ptr l k g o,a].all (AG 9))=false from rfl]
theorem dG(n:Nat)(d:Option Tmp)(x:Operand)(args:List Operand)(c:Nat)(fr:Fr)(s:St):QT (BL cw ann kn n).cf (aK (AF cw ann kn n)) d x args ⟨c,fr,s⟩=ca1 (BL cw ann kn n) d ⟨c,fr,s⟩ (CI fr x) (FT (CI fr) args):=bQ d ⟨c,fr,s⟩ x args
def vR(c:AU)(x:Sp):Prop:=KE c x=true/\x.fam<c.fams.length/\0<=x.size/\x.size<=4
theorem AFP(c:AU)(hc:CW c)(γ:Nat)(B:AA)(x:Sp)(hx:vR c x)(L:AA)(hL:Lw c γ B L)(rs:List AA)(loc:AA)(hst:E0 (rs++[loc]))(cc:Nat)(hcc:γ+1<cc) :
  ∃L' c',Lw c γ B L'/\cc<=c'/\∀n dd fr,HQ (BL cw ann kn (n+600)) (some dd) ⟨cc,fr,⟨L::rs,loc⟩⟩ 129 [.ptr 0 911 (γ+1) 0,.agg (A6 x)]=some ⟨c',(dd,true,.agg (CM (BU c (AV c) x)))::fr,⟨L'::rs,loc⟩⟩:=by
 obtain⟨h1,h2,h3,h4⟩:=hx
 obtain⟨f,z,r,p⟩:=x
 obtain⟨g1,g2,g3,g4⟩:=XG h1
 simp only at g1 g2 g3 g4 h2 h3 h4
 obtain⟨r,rfl⟩:∃k:Nat,r=k:=⟨r.toNat,by omega⟩
 obtain⟨p,rfl⟩:∃k:Nat,p=k:=⟨p.toNat,by omega⟩
 exact AKX c hc γ B f r p z h2 ⟨h3,h4⟩ g2 g4 L hL rs loc hst cc hcc
theorem bH{c:AU}(hc:CW c){x:Sp}(hx:vR c x):0<=(BU c (AV c) x).sun/\(BU c (AV c) x).sun<=20/\0<=(BU c (AV c) x).carried/\(BU c (AV c) x).carried<=4:=by obtain⟨h1,h2,h3,h4⟩:=hx;obtain⟨f,z,r,p⟩:=x;obtain⟨g1,g2,g3,g4⟩:=XG h1;simp only at g1 g2 g3 g4 h2 h3 h4;obtain⟨r,rfl⟩:∃k:Nat,r=k:=⟨r.toNat,by omega⟩;obtain⟨p,rfl⟩:∃k:Nat,p=k:=⟨p.toNat,by omega⟩;have:=rS hc (f:=f) (r:=r) (p:=p) (z:=z) z.toNat;rw[show BU c (AV c) ⟨f,z,(r:Int),(p:Int)⟩=oN c (AV c) ⟨f,z,(r:Int),(p:Int)⟩ z.toNat from rfl];omega
theorem AFQ(c:AU)(s:List (List Int))(l:List Sp)(x:Sp):EV c s (l++[x])=⟨(EV c s l).sun+(BU c s x).sun,(EV c s l).carried+(BU c s x).carried,(EV c s l).enough&&(BU c s x).enough⟩:=by unfold EV;rw[List.foldl_append];rfl
theorem AFR{c:AU}(hc:CW c):∀{l:List Sp},(∀x∈l,vR c x)->0<=(EV c (AV c) l).sun/\(EV c (AV c) l).sun<=20*l.length/\0<=(EV c (AV c) l).carried/\(EV c (AV c) l).carried<=4*l.length:=fun {l} h=>by
 rw[X7];have h1:=fS (l:=l) (f:=fun x=>(BU c (AV c) x).sun) (m:=20) fun x hx=>by have:=bH hc (h x hx);omega
 have h2:=fS (l:=l) (f:=fun x=>(BU c (AV c) x).carried) (m:=4) fun x hx=>by have:=bH hc (h x hx);omega
 simp only;omega
def nM(RS:List AA)(l:List Sp)(v:V):Prop:=v=.list false (l.map A6)\/(v=.nil/\l=[])\/∃q γ es,v=.vec (q+1) 921 γ l.length/\nJ RS q γ l es
theorem A34(c:AU)(hc:CW c)(γ:Nat)(B:AA)(l:List Sp)(hl:l.length<=10)(hx:∀x∈l,vR c x)(RS:List AA)(hst:E0 RS)(v:V)(hv:nM RS l v)(g:Nat):∀(d k cc:Nat) (L:AA),k+d=l.length->Lw c γ B L->γ+1<cc->g<cc->∃fr L' c',BS fr 4=some (true,.ptr (RS.length+1) 4 g 0)/\BS fr 5=some (true,.ptr (RS.length+1) 5 (g+1) 0)/\Lw c γ B L'/\cc<=c' /\
  ∀n m,d<m->BT (AF cw ann kn (n+800) 38) YR (ann 38 (CA YR)) m ⟨cc,[(0,true,.ptr 0 911 (γ+1) 0),(4,true,.ptr (RS.length+1) 4 g 0),(5,true,.ptr (RS.length+1) 5 (g+1) 0),(10,true,v),(11,true,i l.length),(12,true,i k)],⟨L::RS,[(4,g,.box [i 0,i 0,.bool false]),(5,g+1,.box (CM (EV c (AV c) (l.take k))))]⟩⟩ =
   some (.exit 0,⟨c',fr,⟨L'::RS,[(4,g,.box [i 0,i 0,.bool false]),(5,g+1,.box (CM (EV c (AV c) l)))]⟩⟩)
 |0,k,cc,L,hd,hL,hcc,hg=>by
  obtain rfl:k=l.length:=by omega
  rw[List.take_length];refine⟨?fr,L,cc,?g1,?g2,hL,Nat.le_refl _,fun n m hm=>?g9⟩;case g9=>
   obtain⟨m,rfl⟩:=qNz m (by omega)
   rw[AB]
   simp[CM]
   rfl
  all_goals simp
 |d+1,k,cc,L,hd,hL,hcc,hg=>by
  have hk:k<l.length:=by omega
  have hw:=CB (k:=k) (by omega);have hxk:=hx _ (bq hk);obtain⟨L1,c1,r1,r2,r3⟩:=AFP c hc γ B l[k] hxk L hL RS [(4,g,.box [i 0,i 0,.bool false]),(5,g+1,.box (CM (EV c (AV c) (l.take k)))),(7,cc,.box (A6 l[k]))] (FY hst fun t _=>by simp[CM,A6]) (cc+1) (by omega);obtain⟨fr,L',c',e4,e5,hL',hc',ih⟩:=A34 c hc γ B l hl hx RS hst v hv g d (k+1) (c1+1) L1 (by omega) r1 (by omega) (by omega);refine⟨fr,L',c',e4,e5,hL',by omega,fun n m hm=>?_⟩;obtain⟨m,rfl⟩:=qNz m (by omega);have ih:=ih n m (by omega);rw[List.take_succ_eq_append_getElem hk,AFQ]at ih;have hsl:=bH hc hxk;have hgc:g<c1:=by omega
  have htl:=AFR hc (l:=l.take k) fun x hx2=>hx x (List.mem_of_mem_take hx2);have htk:(l.take k).length<=10:=by rw[List.length_take];omega
  generalize EV c (AV c) (l.take k)=S at *;generalize EV c (AV c) l=F at *;generalize BU c (AV c) l[k]=s at *;have w1:IntKind.i64.wrap (S.sun+s.sun)=S.sun+s.sun:=AY (by omega) (by omega);have w2:IntKind.i64.wrap (S.carried+s.carried)=S.carried+s.carried:=AY (by omega) (by omega);obtain⟨S1,S2,S3⟩:=S;rw[AB];simp only[A6,CM]at r3 ih|-;simp only at w1 w2 ih;rcases hv with rfl|⟨_,rfl⟩|⟨q,γr,es,rfl,hr⟩
  ·cases S3<;>(simp at ih r3;simp[hk,hw,r3,A6,hgc,w1,w2,dE,dF,AFO,dG,DJ,AW,ih])
  ·simp at hk
  ·obtain⟨⟨Lq,hU,hLq⟩,hln,hel⟩:=hr;have hke:k<es.length:=by omega
   have hel:=hel k hk hke;have hq:¬q=RS.length:=fun e=>by rw[e]at hU;simp at hU
   cases S3<;>(simp at ih r3;simp[hk,hw,r3,hU,hLq,hln,hel,hke,hq,A6,hgc,w1,w2,dE,dF,AFO,dG,DJ,AW,ih])
theorem nM.len{RS:List AA}{l:List Sp}{v:V}(h:nM RS l v):v=.list false (l.map A6)\/(v=.nil/\l=[])\/∃q γ,v=.vec q 921 γ l.length:=by
 rcases h with h|h|⟨q,γ,es,h,_⟩
 ·exact .inl h
 ·exact .inr (.inl h)
 ·exact .inr (.inr ⟨_,_,h⟩)
theorem A35(c:AU)(hc:CW c)(γ:Nat)(B:AA)(l:List Sp)(hl:l.length<=10)(hx:∀x∈l,vR c x)(RS:List AA)(hst:E0 RS)(v:V)(hv:nM RS l v)(L:AA)(hL:Lw c γ B L)(cc:Nat)(hcc:γ+1<cc):∃L' c',Lw c γ B L'/\cc<=c'/\∀n dd fr,bT cw (some dd) fr Tryz.f86.results.toList (AF cw ann kn (n+900) 38 c86 ⟨cc,AD 0 [.ptr 0 911 (γ+1) 0,v],⟨L::RS,[]⟩⟩)=UG (some dd) fr c' (.agg (CM (EV c (AV c) l))) (B5 (L'::RS)):=by
 obtain⟨fr1,L',c',e4,e5,hL',hc',qq⟩:=A34 c hc γ B l hl hx RS hst v hv cc l.length 0 (cc+2) L (by omega) hL (by omega) (by omega);have qq:=fun n m=>qq n (m+100) (by omega);rw[List.take_zero,show EV c (AV c) []=⟨0,0,true⟩ from rfl]at qq;have hcc2:cc<c':=by omega
 have sL:=hL'.st;have sR:∀(A:AA) (lo:AA),RS.map (AJ ⟨A::RS,lo⟩)=RS:=fun A lo=>hst _ (by simp);refine⟨L',c',hL',by omega,fun n dd fr=>?_⟩;generalize EV c (AV c) l=F at *;simp only[CM]at qq|-;rcases hv.len with rfl|⟨rfl,rfl⟩|⟨q,γr,rfl⟩
 ·simp at qq;simp[c86,AD,qq,e4,e5,sL,sR,DJ,AW,hcc2]
 ·simp at qq;simp[c86,AD,qq,e4,e5,sL,sR,DJ,AW,hcc2]
 ·simp at qq;simp[c86,AD,qq,e4,e5,sL,sR,DJ,AW,hcc2]
theorem at5(R:List AA)(a:AA)(Y:List AA):(R++a::Y)[R.length]? = some a:=by simp
theorem rT(R:List AA)(a:AA)(Y:List AA)(f:AA->AA):(R++a::Y).modify R.length f=R++f a::Y:=by
 induction R with
 |nil=>rfl
 |cons x R ih=>simpa using ih
def zM(q:Nat)(Lq:AA)(o:List Sp)(v:V)(cc:Nat):Prop:=(v=.nil/\o=[])\/∃γ es,v=.vec q 921 γ o.length/\Lq.get 921=some (γ,.vec 153 es)/\o.length<=es.length/\(∀k (h:k<o.length) (h2:k<es.length),es[k]=A6 o[k])/\(∀e∈es,e.length=4)/\γ<cc
theorem zM.more{q:Nat}{Lq:AA}{o:List Sp}{v:V}{cc c2:Nat}(h:zM q Lq o v cc)(hc:cc<=c2):zM q Lq o v c2:=by
 rcases h with h|⟨γ,es,h1,h2,h3,h4,h5,h6⟩
 ·exact .inl h
 ·exact .inr ⟨γ,es,h1,h2,h3,h4,h5,by omega⟩
theorem AFS(n K:Nat)(U:List AA)(loc:AA)(f:FuncId)(cap:List V)(hco:cap.all (AG 8)=false)(hsh:StU (U++[loc]))(c dd:Nat)(fr:Fr):HQ (BL cw ann kn (n+K+100)) (some dd) ⟨c,fr,⟨U,loc⟩⟩ 189 [.nil,.fn f [] cap]=some ⟨c,(dd,true,i (-1))::fr,⟨U,loc⟩⟩:=by
 have hcl:([V.nil,V.fn f [] cap]).all (AG 9)=false:=by simp[hco]
 have hs:=hsh ⟨U++[loc],[]⟩ (by simp);simp at hs;rw[A5 cx b189 rfl hcl];simp[AI0,AD,AB,hs]
theorem ARY(n K:Nat)(U:List AA)(loc:AA)(f:FuncId)(cap:List V)(_:cap.map weakV=cap)(hco:cap.all (AG 8)=false)(hsh:StU (U++[loc]))(c dd:Nat)(fr:Fr):HQ (BL cw ann kn (n+K+200)) (some dd) ⟨c,fr,⟨U,loc⟩⟩ 171 [.nil,.fn f [] cap]=some ⟨c,(dd,true,.bool false)::fr,⟨U,loc⟩⟩:=by
 have hcl:([V.nil,V.fn f [] cap]).all (AG 9)=false:=by simp[hco]
 have hsh2:StU (U++[loc]++[[]]):=fun t h=>by have:=hsh t (by simp at h|-;omega);rw[bz,this];rfl
 have qq:=AFS (n+97) K (U++[loc]) [] f cap hco hsh2 c 7 [(6,true,.fn f [] cap),(5,true,.nil),(0,true,.nil),(1,true,.fn f [] cap)];have e:n+97+K+100=n+K+197:=by omega
 rw[e]at qq;have hs:=hsh ⟨U++[loc],[]⟩ (by simp);simp at hs;rw[A5 Tryz.func171 b171 rfl hcl];simp[APU,AD,qq,hs]
theorem ARZ(n K:Nat)(U:List AA)(loc:AA)(f:FuncId)(cap:List V)(hco:cap.all (AG 8)=false)(hsh:StU (U++[loc]))(c:Nat)(hcap:∀t:St,U.length+1<=t.up.length->AJ t [(3,c,AX.box [V.fn f [] cap])]=[(3,c,AX.box [V.fn f [] cap])])(dd:Nat)(fr:Fr):HQ (BL cw ann kn (n+K+300)) (some dd) ⟨c,fr,⟨U,loc⟩⟩ 137 [.nil,.fn f [] cap]=some ⟨c+1,(dd,true,.bool true)::fr,⟨U,loc⟩⟩:=by
 have hcl:([V.nil,V.fn f [] cap]).all (AG 9)=false:=by simp[hco]
 have hsh2:StU (U++[loc]++[[(3,c,AX.box [V.fn f [] cap])]]):=fun t h=>by
  have h':U.length+1<=t.up.length:=by simp at h;omega
  have:=hsh t (by simpa using h');rw[bz,this];simp only[bw,List.map_nil,hcap t h']
 have qq:=ARY (n+77) (K+20) (U++[loc]) [(3,c,AX.box [V.fn f [] cap])] 172 [.ptr (U.length+1) 3 c 0] (by simp) (by simp) hsh2 (c+1) 7 [(6,true,.fn 172 [] [.ptr (U.length+1) 3 c 0]),(5,true,.nil),(0,true,.nil),(1,true,.fn f [] cap),(3,true,.ptr (U.length+1) 3 c 0)];have e:n+77+(K+20)+200=n+K+297:=by omega
 rw[e]at qq;have hs1:∀t:St,U.length+1<=t.up.length->cq (AJ t) U=U/\AJ t loc=loc:=fun t h=>by have:=hsh t (by simpa using h);simpa using this
 rw[A5 Tryz.func137 b137 rfl hcl];try simp only[bh,List.length_cons,List.length_nil]at qq|-
 simp[APV,AD,qq,(hs1 _ _).1,(hs1 _ _).2]
theorem bI{c:AU}(hc:CW c){x:Sp}(hx:vR c x):x.fam<c.fams.length/\(0<=x.size/\x.size<=1000)/\-1000<=x.place/\x.place<=1000:=by obtain⟨h1,h2,h3,h4⟩:=hx;have hpl:=hc.be.pl;have:=XG h1;exact⟨h2,by omega,by omega,by omega⟩
theorem AKY(c:AU)(hc:CW c)(γ:Nat)(B L:AA)(hL:Lw c γ B L)(x:Sp)(hx:vR c x)(o:List Sp)(ho:∀y∈o,vR c y)(hol:o.length<=10)(R:List AA)(Lq:AA)(Y:List AA)(v:V)(cc:Nat)(hv:zM (R.length+1) Lq o v cc)(loc:AA)(g10:Nat)(hloc:loc.get 10=some (g10,.box (A6 x)))(hst:StU (L::(R++Lq::Y)++[loc])) :
  ∃c':Nat,cc<=c'/\∀n dd fr,HQ (BL cw ann kn (n+900)) (some dd) ⟨cc,fr,⟨L::(R++Lq::Y),loc⟩⟩ 137 [v,.fn 169 [] [.ref [.ptr 0 911 (γ+1) 0],.ptr (R.length+Y.length+2) 10 g10 0]]=some ⟨c',(dd,true,.bool (o.all (GI c x)))::fr,⟨L::(R++Lq::Y),loc⟩⟩:=by
 have hUl:(L::(R++Lq::Y)).length=R.length+Y.length+2:=by simp;omega
 have hcap:∀t:St,(L::(R++Lq::Y)).length+1<=t.up.length->AJ t [(3,cc,AX.box [V.fn 169 [] [.ref [.ptr 0 911 (γ+1) 0],.ptr (R.length+Y.length+2) 10 g10 0]])]=[(3,cc,AX.box [V.fn 169 [] [.ref [.ptr 0 911 (γ+1) 0],.ptr (R.length+Y.length+2) 10 g10 0]])]:=fun t ht=>by
  rw[hUl]at ht;have e0:¬0=t.up.length:=by omega
  have e1:¬R.length+Y.length+2=t.up.length:=by omega
  obtain⟨up,lo⟩:=t;simp only at e0 e1;simp[e0,e1]
 rcases hv with⟨rfl,rfl⟩|⟨γr,es,rfl,v2,v3,v4,v5,v6⟩
 ·refine⟨cc+1,by omega,fun n dd fr=>?_⟩;have qq:=ARZ n 600 (L::(R++Lq::Y)) loc 169 [.ref [.ptr 0 911 (γ+1) 0],.ptr (R.length+Y.length+2) 10 g10 0] (by simp) hst cc hcap dd fr;rw[show n+600+300=n+900 by omega]at qq;exact qq
 ·have hr:nJ (L :: (R++Lq :: Y)++[loc]) (R.length+1) γr o es:=⟨⟨Lq,by simp,v2⟩,v3,v4⟩;obtain⟨c',h1,qq⟩:=A3Z 600 (L :: (R++Lq :: Y)) loc 169 [.ref [.ptr 0 911 (γ+1) 0],.ptr (R.length+Y.length+2) 10 g10 0] (by simp) (by simp) (GI c x) o (R.length+1) γr es hr (by omega) hst cc hcap (fun c1 g2 y hc1 hy=>by
   have y1:=bI hc (ho y hy);have x1:=bI hc hx;have qa:=fun n=>AO4 n c x y x1.1 y1.1 x1.2.2 y1.2.2 x1.2.1 y1.2.1;have p1:=hL.p1;refine⟨c1+1,by omega,fun n fr=>?_⟩;rw[A5 Tryz.func169 b169 rfl (by simp)];generalize GI c x y=z at *;have hs:=fun t h=>hst t h;have hg:(L::(R++Lq::Y)++[loc]++[[(3,cc,AX.box [V.fn 169 [] [.ref [.ptr 0 911 (γ+1) 0],.ptr (R.length+Y.length+2) 10 g10 0]])]]++[[]]++[[]]++[[(2,g2,.box (A6 y))]])[R.length+Y.length+2]? = some loc:=by rw[<-hUl];simp
   have hs1:∀t:St,(L::(R++Lq::Y)).length+1<=t.up.length->cq (AJ t) (L::(R++Lq::Y))=L::(R++Lq::Y)/\AJ t loc=loc:=fun t h=>by have:=hst t (by rw[bh,List.length_singleton];exact h);rw[bz]at this;have:=List.append_inj this (by simp);exact⟨this.1,by simpa using this.2⟩
   generalize hU:L::(R++Lq::Y)=U at *;have hU0:∀h:0<U.length,U[0]=L:=fun h=>by simp only[<-hU];rfl
   have hb12:Nat.beq 12 1=false:=rfl;have hu:∀(l:List AA) a b d,B5 (l++[a,b,[],[],d])=some (l++[a,b,[],[]],d):=fun l a b d=>by have:=unsnoc_snoc (d:AA) (l++[a,b,[],[]]);rwa [bx]at this
   have hb4:Nat.beq 4 1=false:=rfl;generalize hB3:[(3,cc,AX.box [V.fn 169 [] [.ref [.ptr 0 911 (γ+1) 0],.ptr (R.length+Y.length+2) 10 g10 0]])]=B3 at *;simp only[DH,AE,A6]at p1 qa hloc hg |-;simp only[bx,List.cons_append,List.nil_append]at hg |-;simp[A16,AD,p1,hg,hU0,hu,hloc,hUl,qa,DJ,BH,BJ,A0,hb12,hb4,AO,AZ,AP,(hs1 _ _).1,(hs1 _ _).2,hcap])
  exact⟨c',h1,fun n dd fr=>by
   have qq:=qq n dd fr;rwa [show n+600+300=n+900 by omega]at qq⟩
end Go.Proofs.Tryz.Op
