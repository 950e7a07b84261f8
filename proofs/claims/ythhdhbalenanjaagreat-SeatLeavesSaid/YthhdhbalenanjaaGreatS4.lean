/- Contracts: IndexFunc, ContainsFunc, all over a row of groups that lies in a level below. No condition. -/
import Derived.Test.YthhdhbalenanjaaGreatA2
open Go.Proofs.Tryz renaming prog->cj,func189->ck,underlying153->cq
open List renaming getElem?_eq_getElem->bj,getD_eq_getElem?_getD->bk,map_cons->bq,getElem_mem->bw,append_assoc->bx,map_append->bz,mem_cons_of_mem->bb,getElem?_append_left->bc,getElem?_eq_some_iff->bf,length_append->bg,mem_cons->bm,getElem?_eq_none->bn,nodup_cons->bp,map->bt
open Option renaming getD_some->bh
set_option maxRecDepth 100000
set_option linter.unusedSimpArgs false
open Go Go.Pg Go.Proofs Go.Wind
namespace Go.Proofs.Tryz.Op
def yA(U:List AA)(K:Nat)(f:FuncId)(cap:List V)(p:Sp->Bool)(xs:List Sp)(c0:Nat):Prop:=∀c x,c0<=c->x∈xs->∃c',c<=c'/\∀n fr,G4 (BN cj ann kn (n+K)) (some 16) ⟨c,fr,⟨U,[]⟩⟩ f (.agg (BF x)::cap)=some ⟨c',(16,true,.bool (p x))::fr,⟨U,[]⟩⟩
structure uP(U:List AA)(q γ:Nat)(xs:List Sp)(es:List (List V)):Prop where
 lv:∃L,U[q]? = some L/\L.get 921=some (γ,.vec 153 es)
 ln:xs.length<=es.length
 el:∀k (h:k<xs.length) (h2:k<es.length),es[k]=BF xs[k]
theorem yB(K:Nat)(U:List AA)(f:FuncId)(cap:List V)(hcw:cap.map weakV=cap)(p:Sp->Bool)(xs:List Sp)(q γ:Nat)(es:List (List V))(hr:uP U q γ xs es)(c0:Nat)(hp:yA U K f cap p xs c0)(hl:xs.length<=1000):∀(d k c:Nat),k+d=xs.length->c0<=c ->
  ∃(c':Nat) (j:Int),c<=c'/\0<=j/\∀n m,d<m->A8 (AE cj ann kn (n+K+50) 19) SZ (ann 19 (BU SZ)) m ⟨c,[(0,true,.vec q 921 γ xs.length),(1,true,.fn f [] cap),(7,true,i xs.length),(8,true,i k)],⟨U,[]⟩⟩ =
   bif (xs.drop k).any p then some (.ret,⟨c',[(4,true,i j),(17,true,i j),(5,true,i j)],⟨U,[]⟩⟩)
   else some (.exit 0,⟨c',[(9,true,.bool false),(0,true,.vec q 921 γ xs.length),(1,true,.fn f [] cap),(7,true,i xs.length),(8,true,i xs.length)],⟨U,[]⟩⟩)
 |0,k,c,hd,hc0=>by
  have:k=xs.length:=by omega
  subst this;refine⟨c,0,Nat.le_refl _,by omega,fun n m hm=>?_⟩;obtain⟨m,rfl⟩:=qNz m (by omega);simp[AB]
 |d+1,k,c,hd,hc0=>by
  have hk:k<xs.length:=by omega
  have hw:=BM (k:=k) (by omega);have nrm:∀n a:Nat,n+K+a=(n+a)+K:=fun n a=>by omega
  obtain⟨L,hU,hL⟩:=hr.lv;have hln:=hr.ln;have hke:k<es.length:=by omega
  have hel:=hr.el k hk hke;have hq:¬q=U.length:=fun e=>by rw[e]at hU;simp at hU
  rw[List.drop_eq_getElem_cons hk,List.any_cons];obtain⟨c1,hc1,qq⟩:=hp c xs[k] hc0 (bw hk);have qq:=fun n=>qq (n+43) [(15,true,.agg (BF xs[k])),(14,true,.eptr q 921 γ k 0),(13,true,i k),(12,true,.vec q 921 γ xs.length),(11,true,.fn f [] cap),(0,true,.vec q 921 γ xs.length),(1,true,.fn f [] cap),(5,true,i k),(7,true,i xs.length),(8,true,i k)];simp only[<-nrm]at qq;generalize e:p xs[k]=b at qq;cases b with
  |true=>
   refine⟨c1,k,hc1,by omega,fun n m hm=>?_⟩
   obtain⟨m,rfl⟩:=qNz m (by omega)
   have qq:=qq n
   rw[AB]
   try simp only[BF]at qq hel
   try simp at qq
   simp[hk,qq,hcw,hU,hL,hke,hel,hq,hln]
  |false=>
   obtain⟨c',j,h1,h2,ih⟩:=yB K U f cap hcw p xs q γ es hr c0 hp hl d (k+1) c1 (by omega) (by omega)
   refine⟨c',j,by omega,h2,fun n m hm=>?_⟩
   obtain⟨m,rfl⟩:=qNz m (by omega)
   have qq:=qq n
   have ih:=ih n m (by omega)
   rw[AB]
   try simp only[BF]at qq ih hel
   try simp at qq
   simp at ih
   simp[hk,hw,qq,ih,hcw,hU,hL,hke,hel,hq,hln]
def StU(U:List AA):Prop:=∀t:St,U.length<=t.up.length->U.map (AH t)=U
theorem AND(K:Nat)(U:List AA)(loc:AA)(f:FuncId)(cap:List V)(hcw:cap.map weakV=cap)(hco:cap.all (AG 8)=false)(p:Sp->Bool)(xs:List Sp)(q γ:Nat)(es:List (List V))(hr:uP (U++[loc]) q γ xs es)(c0:Nat)(hp:yA (U++[loc]) K f cap p xs c0)(hl:xs.length<=40)(hsh:StU (U++[loc]))(c:Nat)(hc0:c0<=c) :
  ∃(c':Nat) (j:Int),c<=c'/\decide (0<=j)=xs.any p/\∀n dd fr,G4 (BN cj ann kn (n+K+100)) (some dd) ⟨c,fr,⟨U,loc⟩⟩ 189 [.vec q 921 γ xs.length,.fn f [] cap]=some ⟨c',(dd,true,i j)::fr,⟨U,loc⟩⟩:=by
 obtain⟨c1,j,h1,h2,qq⟩:=yB K (U++[loc]) f cap hcw p xs q γ es hr c0 hp (by omega) xs.length 0 c (by omega) hc0
 have qq:=fun n=>qq (n+45) (n+K+95) (by omega)
 have e:∀n,n+45+K+50=n+K+95:=fun n=>by omega
 simp only[e]at qq
 have hcl:([V.vec q 921 γ xs.length,V.fn f [] cap]).all (AG 9)=false:=by simp[hco]
 have hs:=hsh ⟨U++[loc],[]⟩ (by simp)
 simp at hs
 simp only[List.drop_zero]at qq
 generalize e:xs.any p=b at qq
 cases b with
 |true=>
  refine⟨c1,j,h1,by simpa using h2,fun n dd fr=>?_⟩
  rw[A5 ck b189 rfl hcl]
  simp at qq
  simp[ALH,AF,qq,hs]
 |false=>
  refine⟨c1,-1,h1,by simp,fun n dd fr=>?_⟩
  rw[A5 ck b189 rfl hcl]
  simp at qq
  simp[ALH,AF,qq,hs]
theorem A54(K:Nat)(U:List AA)(loc:AA)(f:FuncId)(cap:List V)(hcw:cap.map weakV=cap)(hco:cap.all (AG 8)=false)(p:Sp->Bool)(xs:List Sp)(q γ:Nat)(es:List (List V))(hr:uP (U++[loc]) q γ xs es)(c0:Nat)(hp:yA (U++[loc]++[[]]) K f cap p xs c0)(hl:xs.length<=40)(hsh:StU (U++[loc]))(c:Nat)(hc0:c0<=c) :
  ∃c':Nat,c<=c'/\∀n dd fr,G4 (BN cj ann kn (n+K+200)) (some dd) ⟨c,fr,⟨U,loc⟩⟩ 171 [.vec q 921 γ xs.length,.fn f [] cap]=some ⟨c',(dd,true,.bool (xs.any p))::fr,⟨U,loc⟩⟩:=by
 have hcl:([V.vec q 921 γ xs.length,V.fn f [] cap]).all (AG 9)=false:=by simp[hco]
 have hsh2:StU (U++[loc]++[[]]):=fun t h=>by have:=hsh t (by simp at h|-;omega);rw[bz,this];rfl
 have hr2:uP (U++[loc]++[[]]) q γ xs es:=by obtain⟨⟨L,h1,h2⟩,h3,h4⟩:=hr;exact⟨⟨L,by rw[bc];exact h1;exact(bf.1 h1).1,h2⟩,h3,h4⟩
 obtain⟨c1,j,h1,h2,qq⟩:=AND K (U++[loc]) [] f cap hcw hco p xs q γ es hr2 c0 hp hl hsh2 c hc0
 refine⟨c1,h1,fun n dd fr=>?_⟩
 have qq:=qq (n+97) 7 [(6,true,.fn f [] cap),(5,true,.vec q 921 γ xs.length),(0,true,.vec q 921 γ xs.length),(1,true,.fn f [] cap)]
 have e:n+97+K+100=n+K+197:=by omega
 rw[e]at qq
 have hs:=hsh ⟨U++[loc],[]⟩ (by simp)
 simp at hs
 rw[A5 Tryz.func171 b171 rfl hcl]
 simp[ASM,AF,qq,h2,hs]
theorem A55(K:Nat)(U:List AA)(loc:AA)(f:FuncId)(cap:List V)(hcw:cap.map weakV=cap)(hco:cap.all (AG 8)=false)(p:Sp->Bool)(xs:List Sp)(q γ:Nat)(es:List (List V))(hr:uP (U++[loc]) q γ xs es)(hl:xs.length<=40)(hsh:StU (U++[loc]))(c:Nat)(hcap:∀t:St,U.length+1<=t.up.length->AH t [(3,c,AX.box [V.fn f [] cap])]=[(3,c,AX.box [V.fn f [] cap])])
  (hp:∀c1 γ x,c<c1->x∈xs->∃c',c1<=c'/\∀n fr,G4 (BN cj ann kn (n+K)) (some 6) ⟨c1,fr,⟨U++[loc]++[[(3,c,AX.box [V.fn f [] cap])]]++[[]]++[[]],[(2,γ,.box (BF x))]⟩⟩ f (.agg (BF x)::cap)=some ⟨c',(6,true,.bool (p x))::fr,⟨U++[loc]++[[(3,c,AX.box [V.fn f [] cap])]]++[[]]++[[]],[(2,γ,.box (BF x))]⟩⟩) :
  ∃c':Nat,c<=c'/\∀n dd fr,G4 (BN cj ann kn (n+K+300)) (some dd) ⟨c,fr,⟨U,loc⟩⟩ 137 [.vec q 921 γ xs.length,.fn f [] cap]=some ⟨c',(dd,true,.bool (xs.all p))::fr,⟨U,loc⟩⟩:=by
 have hcl:([V.vec q 921 γ xs.length,V.fn f [] cap]).all (AG 9)=false:=by simp[hco]
 have hp2:yA (U++[loc]++[[(3,c,AX.box [V.fn f [] cap])]]++[[]]) (K+20) 172 [.ptr (U.length+1) 3 c 0] (fun x=>!p x) xs (c+1):=by
  intro c1 x hc0 hx;obtain⟨c',h2,qq⟩:=hp (c1+1) c1 x (by omega) hx;refine⟨c',by omega,fun n fr=>?_⟩;have qq:=qq (n+17) [(5,true,.agg (BF x)),(4,true,.fn f [] cap),(0,true,.agg (BF x)),(1,true,.ptr (U.length+1) 3 c 0),(2,true,.ptr (U.length+4) 2 c1 0)];have e:n+17+K=n+K+17:=by omega
  rw[e]at qq;rw[show n+(K+20)=n+K+20 from by omega,A5 Tryz.func172 b172 rfl (by simp)];generalize hB:[(3,c,AX.box [V.fn f [] cap])]=B at qq hcap;have hB1:AA.get B 3=some (c,.box [.fn f [] cap]):=by rw[<-hB];rfl
  have hg:(U++[loc]++[B]++[[]])[U.length+1]? = some B:=by simp only[bx];rw[List.getElem?_append_right (by omega)];simp
  have hs1:∀t:St,U.length+1<=t.up.length->bt (AH t) U=U/\AH t loc=loc:=fun t h=>by have:=hsh t (by simpa using h);simpa using this
  have hu:∀(l:List AA) a b,CE (l++[a,b,[],[]])=some (l++[a,b,[]],[]):=fun l a b=>by have:=unsnoc_snoc ([]:AA) (l++[a,b,[]]);rwa [bx]at this
  simp only[bx,List.cons_append,List.nil_append,BF]at qq hg|-;simp[hu,A3Y,AF,hcw,qq,hB1,(hs1 _ _).1,(hs1 _ _).2,hcap]
 have hsh2:StU (U++[loc]++[[(3,c,AX.box [V.fn f [] cap])]]):=fun t h=>by
  have h':U.length+1<=t.up.length:=by simp at h;omega
  have:=hsh t (by simpa using h');rw[bz,this];simp only[bq,List.map_nil,hcap t h']
 have hr2:uP (U++[loc]++[[(3,c,AX.box [V.fn f [] cap])]]) q γ xs es:=by obtain⟨⟨L,h1,h2⟩,h3,h4⟩:=hr;exact⟨⟨L,by rw[bc];exact h1;exact(bf.1 h1).1,h2⟩,h3,h4⟩
 obtain⟨c',h1,qq⟩:=A54 (K+20) (U++[loc]) [(3,c,AX.box [V.fn f [] cap])] 172 [.ptr (U.length+1) 3 c 0] (by simp) (by simp) (fun x=>!p x) xs q γ es hr2 (c+1) hp2 hl hsh2 (c+1) (Nat.le_refl _)
 refine⟨c',by omega,fun n dd fr=>?_⟩
 have qq:=qq (n+77) 7 [(6,true,.fn 172 [] [.ptr (U.length+1) 3 c 0]),(5,true,.vec q 921 γ xs.length),(0,true,.vec q 921 γ xs.length),(1,true,.fn f [] cap),(3,true,.ptr (U.length+1) 3 c 0)]
 have e:n+77+(K+20)+200=n+K+297:=by omega
 rw[e]at qq
 have hs1:∀t:St,U.length+1<=t.up.length->bt (AH t) U=U/\AH t loc=loc:=fun t h=>by have:=hsh t (by simpa using h);simpa using this
 have hny:(!(xs.any fun x=>!p x))=xs.all p:=by rw[List.not_any_eq_all_not];simp
 rw[A5 Tryz.func137 b137 rfl hcl,<-hny]
 try simp only[bg,List.length_cons,List.length_nil]at qq|-
 simp[ASN,AF,qq,(hs1 _ _).1,(hs1 _ _).2]
def okX(x:Sp):Prop:=KN (x.fam:Int)/\KN x.size/\KN x.row/\KN x.place
def GJ(s:C5):List V:=[i s.sun,i s.carried,.bool s.enough]
def GW(p:Sp×C5):V×V:=(.agg (BF p.1),.agg (GJ p.2))
theorem kI5(d:Nat){n:Int}(h:KN n):Program.keyLits cj (d+1) 3 [.int .i64 n]=some [.int .i64 n]:=by unfold Program.keyLits;simp[Tryz.underlying3,wfI h]
theorem kGr(d:Nat){a b:Int}(ha:KN a)(hb:KN b):Program.keyLits cj (d+2) 151 [.int .i64 a,.int .i64 b]=some [.int .i64 a,.int .i64 b]:=by unfold Program.keyLits;simp[Tryz.underlying151,kI5 d ha,kI5 d hb]
theorem kWS(d:Nat){a b:Int}(ha:KN a)(hb:KN b):Program.keyLits cj (d+2) 86 [.int .i64 a,.int .i64 b]=some [.int .i64 a,.int .i64 b]:=by unfold Program.keyLits;simp[Tryz.underlying86,kI5 d ha,kI5 d hb]
theorem kSS(d:Nat){a b c e:Int}(ha:KN a)(hb:KN b)(hc:KN c)(he:KN e):(Program.keyLits cj (d+3) 153 [.int .i64 a,.int .i64 b,.int .i64 c,.int .i64 e]).isSome=true:=by unfold Program.keyLits;simp[cq,kGr d ha hb,kWS d hc he]
theorem AUT:cj.types.size+1=(cj.types.size-2)+3:=by have:2<=cj.types.size:=of_decide_eq_true (by kernel_rfl);omega
theorem AQK:AAJ cj 153=true:=by kernel_rfl
theorem AUU:cj.keyType 153=true:=by kernel_rfl
theorem AHQ(x:Sp)(h:okX x):X6 cj 153 (.agg (BF x))=some (BF x):=by
 obtain⟨h1,h2,h3,h4⟩:=h;have q:=kSS (cj.types.size-2) h1 h2 h3 h4;rw[<-AUT]at q;have hf:(Value.agg #[.int .i64 (x.fam:Int),.int .i64 x.size,.int .i64 x.row,.int .i64 x.place]).formed cj 153=true:=by unfold Value.formed;simp[cq]
 have hko:(keyOf cj 153 (.agg #[.int .i64 (x.fam:Int),.int .i64 x.size,.int .i64 x.row,.int .i64 x.place])).isSome=true:=by unfold keyOf;rw[cq];simp only;rw[if_pos (by rw[AUU,hf];rfl),Option.isSome_map];exact q
 have hp:D3 (BF x)=some [.int .i64 (x.fam:Int),.int .i64 x.size,.int .i64 x.row,.int .i64 x.place]:=rfl;unfold X6;simp only[hp];rw[if_pos hko]
theorem iF(x:Sp):BF x=[(x.fam:Int),x.size,x.row,x.place].map i:=rfl
theorem pU:∀(x y:List Int),x.length=y.length->eqC (x.map i) (y.map i)=some (x==y)
 |[],[],_=>rfl
 |a::x,b::y,h=>by have ih:=pU x y (by simpa using h);simp only[bq];show(if IntKind.i64=IntKind.i64 then(match eqC (x.map i) (y.map i)with|some r=>some ((a==b)&&r)|none=>none) else none)=_;rw[if_pos rfl,ih];rfl
theorem A56(x y:Sp):eqC (BF x) (BF y)=some (decide (x=y)):=by
 rw[iF x,iF y,pU [(x.fam:Int),x.size,x.row,x.place] [(y.fam:Int),y.size,y.row,y.place] rfl];congr 1;rw[Bool.eq_iff_iff];simp only[beq_iff_eq,decide_eq_true_eq,List.cons.injEq,and_true];constructor
 ·rintro ⟨h1,h2,h3,h4⟩;obtain⟨a,b,c,d⟩:=x;obtain⟨a',b',c',d'⟩:=y;simp only at h1 h2 h3 h4;have:a=a':=by omega
  subst this h2 h3 h4;rfl
 ·rintro rfl;exact⟨rfl,rfl,rfl,rfl⟩
def fE(m:Sp):List (Sp×C5)->Nat->List Nat
 |[],_=>[]
 |p::L,j=>if p.1=m then j::fE m L (j+1) else fE m L (j+1)
theorem kU(m:Sp):∀(L:List (Sp×C5)) (j:Nat),(∀p∈L,okX p.1)->NK cj 153 (BF m) (L.map GW) j=some (fE m L j)
 |[],_,_=>rfl
 |p::L,j,h=>by have ih:=kU m L (j+1) (fun q hq=>h q (by simp[hq]));simp only[bq,GW,NK,AHQ p.1 (h p (by simp)),A56 p.1 m];have ih':NK cj 153 (BF m) (bt GW L) (j+1)=some (fE m L (j+1)):=ih;rw[ih'];simp[fE]
def MC(m:Sp):List (Sp×C5)->Option C5
 |[]=>none
 |p::L=>if p.1=m then some p.2 else MC m L
def O9(m:Sp)(b:C5):List (Sp×C5)->List (Sp×C5)
 |[]=>[(m,b)]
 |p::L=>if p.1=m then(m,b)::L else p::O9 m b L
structure dK(c:AP)(L:List (Sp×C5)):Prop where
 ok:∀p∈L,okX p.1
 nd:(L.map (·.1)).Nodup
 so:∀p∈L,p.2=CR c (A7 c) p.1
theorem iG{m:Sp}{s:C5}:∀{L:List (Sp×C5)},MC m L=some s->(m,s)∈L
 |[],h=>by cases h
 |p::L,h=>by
  unfold MC at h;split at h
  ·rename_i e;cases h;subst e;simp
  ·exact bb _ (iG h)
theorem UT{m:Sp}{b:C5}{q:Sp×C5}:∀{L:List (Sp×C5)},q∈O9 m b L->q=(m,b)\/q∈L
 |[],h=>by simp only[O9,List.mem_singleton]at h;exact .inl h
 |p::L,h=>by
  unfold O9 at h;split at h
  ·rcases bm.1 h with h|h
   ·exact .inl h
   ·exact .inr (bb _ h)
  ·rcases bm.1 h with rfl|h
   ·exact .inr (by simp)
   ·rcases UT h with h|h
    ·exact .inl h
    ·exact .inr (bb _ h)
theorem ABU(m:Sp)(b:C5):∀L,∀q∈(O9 m b L).map (·.1),q=m\/q∈L.map (·.1):=fun L q hq=>by
 obtain⟨p,hp,rfl⟩:=List.mem_map.1 hq;rcases UT hp with rfl|h
 ·exact .inl rfl
 ·exact .inr (List.mem_map_of_mem h)
theorem yC(m:Sp)(b:C5):∀{L:List (Sp×C5)},(L.map (·.1)).Nodup->((O9 m b L).map (·.1)).Nodup
 |[],_=>by simp[O9]
 |p::L,h=>by
  have h2:=bp.1 h;have ih:=yC m b (L:=L) h2.2;unfold O9;split
  ·rename_i e;simp only[bq]at h|-;rwa [<-e]
  ·rename_i e;simp only[bq,bp];refine⟨fun hh=>?_,ih⟩;rcases ABU m b L _ hh with h3|h3
   ·exact e h3
   ·exact h2.1 h3
theorem dK.upd{c:AP}{m:Sp}{L:List (Sp×C5)}(h:dK c L)(hm:okX m):dK c (O9 m (CR c (A7 c) m) L):=by
 refine⟨fun p hp=>?_,yC _ _ h.nd,fun p hp=>?_⟩
 ·rcases UT hp with rfl|hp
  ·exact hm
  ·exact h.ok p hp
 ·rcases UT hp with rfl|hp
  ·rfl
  ·exact h.so p hp
theorem PY(m:Sp):∀(L:List (Sp×C5)) (j:Nat),m∉L.map (·.1)->fE m L j=[]/\MC m L=none/\∀b,O9 m b L=L++[(m,b)]
 |[],j,_=>⟨rfl,rfl,fun _=>rfl⟩
 |p::L,j,h=>by simp only[bq,bm,not_or]at h;obtain⟨i1,i2,i3⟩:=PY m L (j+1) h.2;have hp:¬p.1=m:=fun hh=>h.1 hh.symm;exact⟨by simp[fE,hp,i1],by simp[MC,hp,i2],fun b=>by simp[O9,hp,i3]⟩
theorem WI(m:Sp):∀(L:List (Sp×C5)) (j:Nat),m∈L.map (·.1)->(L.map (·.1)).Nodup->∃k,fE m L j=[j+k]/\(∃b,L[k]? = some (m,b)/\MC m L=some b)/\∀b,O9 m b L=L.set k (m,b)
 |p::L,j,h,hn=>by
  simp only[bq,bp]at hn;by_cases hp:p.1=m
  ·refine⟨0,?_,⟨p.2,?_,?_⟩,fun b=>?_⟩
   ·simp[fE,hp,(PY m L (j+1) (by rw[<-hp];exact hn.1)).1]
   ·simp[<-hp]
   ·simp[MC,hp]
   ·simp[O9,hp]
  ·simp only[bq,bm]at h;obtain⟨k,i1,⟨b,i2,i3⟩,i4⟩:=WI m L (j+1) (h.resolve_left fun hh=>hp hh.symm) hn.2;refine⟨k+1,?_,⟨b,?_,?_⟩,fun b=>?_⟩
   ·simp[fE,hp,i1];omega
   ·simpa using i2
   ·simp[MC,hp,i3]
   ·simp[O9,hp,i4]
theorem AHR(s:St)(x:Sp):B7 s (.agg (BF x))=some (.agg (BF x)):=rfl
theorem AHS(s:St)(x:C5):B7 s (.agg (GJ x))=some (.agg (GJ x)):=rfl
theorem kV(s:St)(L:List (Sp×C5)):CG s (.map (L.map GW))=.map (L.map GW):=by
 have:CA s (.map (L.map GW))=some (.map (L.map GW)):=by unfold CA;simp only;rw[NF];intro x hx;simp only[List.mem_map]at hx;obtain⟨p,hp,rfl⟩:=hx;simp only[GW,AHR,AHS]
 unfold CG;rw[this]
theorem AQL:AFV cj 173=some (153,158):=by kernel_rfl
theorem ANE:VP cj 158=some (.agg [i 0,i 0,.bool false]):=by kernel_rfl
theorem A57{s:St}{l q g:Nat}{c:AP}{L:List (Sp×C5)}{m:Sp}(hs:s.get l q=some (g,.map (L.map GW)))(hL:dK c L)(hm:okX m) :
  DO cj s 173 (.mp l q g) (.agg (BF m)) true=some (.tup [.agg (GJ ((MC m L).getD ⟨0,0,false⟩)),.bool (MC m L).isSome]):=by
 unfold DO
 simp only[AQL,hs,AQK,AHQ m hm,kU m L 0 hL.ok,and_self,if_true]
 by_cases h:m∈L.map (·.1)
 ·obtain⟨k,i1,⟨b,i2,i3⟩,_⟩:=WI m L 0 h hL.nd;simp[i1,i2,i3,GW]
 ·obtain⟨i1,i2,_⟩:=PY m L 0 h;simp[i1,i2,ANE,GJ]
theorem BGB{s:St}{l q g:Nat}{c:AP}{L:List (Sp×C5)}{m:Sp}{b:C5}(hs:s.get l q=some (g,.map (L.map GW)))(hL:dK c L)(hm:okX m) :
  L5 cj s 173 (.mp l q g) (.agg (BF m)) (.agg (GJ b))=some (l,q,g,(O9 m b L).map GW):=by
 unfold L5
 simp only[AQL,hs,AQK,AHQ m hm,kU m L 0 hL.ok,and_self,if_true]
 by_cases h:m∈L.map (·.1)
 ·obtain⟨k,i1,_,i4⟩:=WI m L 0 h hL.nd;simp[i1,i4,GW]
 ·obtain⟨i1,_,i4⟩:=PY m L 0 h;simp[i1,i4,GW]
end Go.Proofs.Tryz.Op
namespace Go.Wind
def uQ(c:AP)(sure:List (List Int))(x:Sp)(k:Nat):C5 :=
 ⟨FB (fun p=>DM sure x.row (x.place+(p:Int))) k,FB (fun p=>if RN c x.row (x.place+(p:Int))=true then 0 else 1) k,(List.range k).all fun p=>decide ((BO c x.fam).good<=DM sure x.row (x.place+(p:Int)))⟩
theorem ANF(c:AP)(sure:List (List Int))(x:Sp):uQ c sure x x.size.toNat=CR c sure x:=rfl
theorem pV(c:AP)(sure:List (List Int))(x:Sp)(k:Nat):uQ c sure x (k+1)=⟨(uQ c sure x k).sun+DM sure x.row (x.place+(k:Int)),(uQ c sure x k).carried+(if RN c x.row (x.place+(k:Int))=true then 0 else 1),(uQ c sure x k).enough&&decide ((BO c x.fam).good<=DM sure x.row (x.place+(k:Int)))⟩:=by unfold uQ;rw[List.range_succ,List.all_append];simp[FB]
end Go.Wind
namespace Go.Proofs.Tryz.Op
theorem AHT{c:AP}(hc:B0 c){f r p:Nat}{z:Int}:∀k,0<=(uQ c (A7 c) ⟨f,z,(r:Int),(p:Int)⟩ k).sun/\(uQ c (A7 c) ⟨f,z,(r:Int),(p:Int)⟩ k).sun<=5*k/\0<=(uQ c (A7 c) ⟨f,z,(r:Int),(p:Int)⟩ k).carried/\(uQ c (A7 c) ⟨f,z,(r:Int),(p:Int)⟩ k).carried<=k
 |0=>by simp[uQ,FB]
 |k+1=>by
  have ih:=AHT hc (f:=f) (r:=r) (p:=p) (z:=z) k;rw[pV];have h1:0<=DM (A7 c) (r:Int) ((p:Int)+(k:Int))/\DM (A7 c) (r:Int) ((p:Int)+(k:Int))<=5:=by
   unfold DM;rw[bk,bk];by_cases hr:(r:Int).toNat<(A7 c).length
   ·rw[bj hr];have:=lU hc _ (bw hr);by_cases hp:((p:Int)+(k:Int)).toNat<((A7 c)[(r:Int).toNat]).length
    ·simp only[bh,bj hp];exact this.2 _ (bw hp)
    ·simp only[bh,bn (Nat.le_of_not_lt hp)];decide
   ·rw[bn (Nat.le_of_not_lt hr)];simp
  simp only at ih|-;split<;>omega
theorem A58(c:AP)(hc:B0 c)(γ:Nat)(L:AA)(hL:L.get 911=some (γ+1,.box (CT c γ)))(R:List AA)(g:Nat)(f r p:Nat)(z:Int)(hf:f<c.fams.length)(hz:0<=z/\z<=4)(hr:(r:Int)<c.beach.rows)(hp:(p:Int)+z<=c.beach.places)(B4:AX):∀(d k cc:Nat),k+d=z.toNat->g+2<cc->∃fr,BG fr 0=some (true,.ptr 0 911 (γ+1) 0)/\BG fr 3=some (true,.ptr (R.length+1) 3 g 0)/\BG fr 4=some (true,.ptr (R.length+1) 4 (g+1) 0)/\BG fr 5=some (true,.ptr (R.length+1) 5 (g+2) 0) /\
  ∀n m,d<m->A8 (AE cj ann kn (n+400) 94) TH (ann 94 (BU TH)) m ⟨cc,[(0,true,.ptr 0 911 (γ+1) 0),(3,true,.ptr (R.length+1) 3 g 0),(4,true,.ptr (R.length+1) 4 (g+1) 0),(5,true,.ptr (R.length+1) 5 (g+2) 0),(7,true,i ((p:Int)+(k:Int)))],⟨L::R,[(3,g,.box (BF ⟨f,z,(r:Int),(p:Int)⟩)),(4,g+1,B4),(5,g+2,.box (GJ (uQ c (A7 c) ⟨f,z,(r:Int),(p:Int)⟩ k)))]⟩⟩ =
   some (.exit 0,⟨cc,fr,⟨L::R,[(3,g,.box (BF ⟨f,z,(r:Int),(p:Int)⟩)),(4,g+1,B4),(5,g+2,.box (GJ (CR c (A7 c) ⟨f,z,(r:Int),(p:Int)⟩)))]⟩⟩)
 |0,k,cc,hd,hcc=>by
  obtain rfl:k=z.toNat:=by omega
  have hz2:(z.toNat:Int)=z:=by omega
  have hpl:=hc.be.pl;rw[<-ANF];have hzz:(⟨f,z,(r:Int),(p:Int)⟩:Sp).size.toNat=z.toNat:=rfl;rw[hzz];generalize uQ c (A7 c) ⟨f,z,(r:Int),(p:Int)⟩ z.toNat=S;rw[hz2];have w1:IntKind.i64.wrap ((p:Int)+z)=(p:Int)+z:=AO (by omega) (by omega);refine⟨?fr,?g1,?g2,?g3,?g4,fun n m hm=>?g9⟩;case g9=>
   obtain⟨m,rfl⟩:=qNz m (by omega)
   rw[AB]
   simp[BF,GJ,w1]
   rfl
  all_goals simp
 |d+1,k,cc,hd,hcc=>by
  have hpl:=hc.be.pl;have hro:=hc.be.ro;have w1:IntKind.i64.wrap ((p:Int)+z)=(p:Int)+z:=AO (by omega) (by omega);have w2:IntKind.i64.wrap ((p:Int)+(k:Int)+1)=(p:Int)+((k+1:Nat):Int):=by rw[AO (by omega) (by omega)];omega
  have hlt:(k:Int)<z:=by omega
  have hr5:r<(A7 c).length:=by rw[zJ];omega
  have hrow:=lU hc _ (bw hr5);have hpk:p+k<((A7 c)[r]).length:=by omega
  have hcr:r<c.chairs.length:=by have:=hc.ch;omega
  have hcl:=hc.cr _ (bw hcr);have hpc:p+k<(c.chairs[r]).length:=by omega
  have hb:=AHT hc (f:=f) (r:=r) (p:=p) (z:=z) k;have hs1:DM (A7 c) (r:Int) ((p:Int)+(k:Int))=((A7 c)[r])[p+k]:=by
   have e:((p:Int)+(k:Int)).toNat=p+k:=by omega
   unfold DM;rw[bk,bk,Int.toNat_natCast,bj hr5,e];simp only[bh,bj hpk]
  have hc1:RN c (r:Int) ((p:Int)+(k:Int))=(c.chairs[r])[p+k]:=by
   have e:((p:Int)+(k:Int)).toNat=p+k:=by omega
   unfold RN;rw[bk,bk,Int.toNat_natCast,bj hcr,e];simp only[bh,bj hpc]
  have hv:=hrow.2 _ (bw hpk);have hfm:BO c f=c.fams[f]:=by simp[BO,bj hf]
  obtain⟨fr,e0,e3,e4,e5,ih⟩:=A58 c hc γ L hL R g f r p z hf hz hr hp B4 d (k+1) cc (by omega) hcc;refine⟨fr,e0,e3,e4,e5,fun n m hm=>?_⟩;obtain⟨m,rfl⟩:=qNz m (by omega);have ih:=ih n m (by omega);rw[pV]at ih;simp only[hs1,hc1,hfm]at ih;generalize CR c (A7 c) ⟨f,z,(r:Int),(p:Int)⟩=FIN at *;generalize uQ c (A7 c) ⟨f,z,(r:Int),(p:Int)⟩ k=S at *;obtain⟨sn,cr,en⟩:=S;simp only at ih hb;have w3:IntKind.i64.wrap (sn+((A7 c)[r])[p+k])=sn+((A7 c)[r])[p+k]:=AO (by omega) (by omega);have w4:IntKind.i64.wrap (cr+1)=cr+1:=AO (by omega) (by omega);have hp0:(0:Int)<=(p:Int)+(k:Int):=by omega
  have hp1:(p:Int)+(k:Int)<5:=by omega
  have hp2:((p:Int)+(k:Int)).toNat=p+k:=by omega
  have hp3:(p:Int)+(k:Int)<((c.chairs[r]).length:Int):=by omega
  have hlen5:((A7 c)[r]).length=5:=hrow.1;have hgo:=bj hpk;generalize ((A7 c)[r])[p+k]=V at *;generalize hGD:decide ((c.fams[f]).good<=V)=G at ih;generalize hCH:(c.chairs[r])[p+k]=C at *;rw[AB];simp only[CT,AD]at hL;simp only[BF,GJ]at ih|-;cases en<;>cases G<;>cases C<;>(simp at ih;simp[hL,w1,w2,w3,w4,hlt,hr5,hcr,hf,hp0,hp1,hp2,hp3,hpc,hlen5,hGD,hCH,hgo,hcc,encA,AU,BC,AS,XU,ih])
structure Lw(c:AP)(γ:Nat)(B L:AA):Prop where
 p0:∃T,dK c T/\L.get 910=some (γ,.map (T.map GW))
 p1:L.get 911=some (γ+1,.box (CT c γ))
 st:∀t:St,1<=t.up.length->AH t L=L
 ot:∀k,¬k=910->L.get k=B.get k
theorem Lw.put{c:AP}{γ:Nat}{B L:AA}(h:Lw c γ B L){T:List (Sp×C5)}(h1:dK c T):Lw c γ B ((910,γ,.map (T.map GW))::L) where
 p0:=⟨T,h1,by simp⟩
 p1:=by simpa using h.p1
 st:=fun t ht=>by rw[BK,h.st t ht,kV t T]
 ot:=fun k h1=>by rw[<-h.ot k h1];simp[h1]
theorem ANG(c:AP)(hc:B0 c)(γ:Nat)(B:AA)(f r p:Nat)(z:Int)(hf:f<c.fams.length)(hz:0<=z/\z<=4)(hr:(r:Int)<c.beach.rows)(hp:(p:Int)+z<=c.beach.places)(L:AA)(hL:Lw c γ B L)(rs:List AA)(loc:AA)(hst:FK (rs++[loc]))(cc:Nat)(hcc:γ+1<cc) :
  ∃L' c',Lw c γ B L'/\cc<=c'/\∀n dd fr,G4 (BN cj ann kn (n+600)) (some dd) ⟨cc,fr,⟨L::rs,loc⟩⟩ 129 [.ptr 0 911 (γ+1) 0,.agg (BF ⟨f,z,(r:Int),(p:Int)⟩)]=some ⟨c',(dd,true,.agg (GJ (CR c (A7 c) ⟨f,z,(r:Int),(p:Int)⟩)))::fr,⟨L'::rs,loc⟩⟩:=by
 obtain⟨T,a1,a2⟩:=hL.p0
 have p1:=hL.p1
 have hfl:=hc.fl
 have hro:=hc.be.ro
 have hpl:=hc.be.pl
 have hK:okX ⟨f,z,(r:Int),(p:Int)⟩:=⟨P2 (by simp only;omega),P2 (by simp only;omega),P2 (by simp only;omega),P2 (by simp only;omega)⟩
 have ql:∀(R:List AA) (lo:AA),DO cj ⟨L::R,lo⟩ 173 (.mp 0 910 γ) (.agg (BF ⟨f,z,(r:Int),(p:Int)⟩)) true=some (.tup [.agg (GJ ((MC ⟨f,z,(r:Int),(p:Int)⟩ T).getD ⟨0,0,false⟩)),.bool (MC ⟨f,z,(r:Int),(p:Int)⟩ T).isSome]):=fun R lo=>A57 (by simpa using a2) a1 hK
 have hs1:=fun t:St=>fun h=>hst t h
 have sL:=hL.st
 have hb3:Nat.beq 3 1=false:=rfl
 have hγ:γ<cc+3:=by omega
 cases hlk:MC ⟨f,z,(r:Int),(p:Int)⟩ T with
 |some v=>
  rw[hlk]at ql
  have hv:=a1.so _ (iG hlk)
  simp only at hv
  subst hv
  refine⟨L,cc+3,hL,by omega,fun n dd fr=>?_⟩
  rw[A5 Tryz.func129 b129 rfl (by simp)]
  generalize CR c (A7 c) ⟨f,z,(r:Int),(p:Int)⟩=S at *
  simp only[CT,AD,BF,GJ]at p1 ql|-
  simp at ql
  simp[ASQ,AF,p1,ql,sL,hs1,EY,B6,hb3]
 |none=>
  rw[hlk]at ql
  have hL':=hL.put (a1.upd hK)
  have qu:∀(R:List AA) (lo:AA),L5 cj ⟨L::R,lo⟩ 173 (.mp 0 910 γ) (.agg (BF ⟨f,z,(r:Int),(p:Int)⟩)) (.agg (GJ (CR c (A7 c) ⟨f,z,(r:Int),(p:Int)⟩)))=some (0,910,γ,(O9 ⟨f,z,(r:Int),(p:Int)⟩ (CR c (A7 c) ⟨f,z,(r:Int),(p:Int)⟩) T).map GW):=fun R lo=>BGB (by simpa using a2) a1 hK
  obtain⟨fr1,e0,e3,e4,e5,qq⟩:=A58 c hc γ L p1 (rs++[loc]) cc f r p z hf hz hr hp (.box [i 0,i 0,.bool false]) z.toNat 0 (cc+3) (by omega) (by omega)
  have qq:=fun n m=>qq n (m+100) (by omega)
  rw[show uQ c (A7 c) ⟨f,z,(r:Int),(p:Int)⟩ 0=⟨0,0,true⟩ from rfl]at qq
  have hsh:=fun t:St=>hL'.st t
  generalize (O9 ⟨f,z,(r:Int),(p:Int)⟩ (CR c (A7 c) ⟨f,z,(r:Int),(p:Int)⟩) T).map GW=TT at qu hL' hsh
  refine⟨_,cc+3,hL',by omega,fun n dd fr=>?_⟩
  rw[A5 Tryz.func129 b129 rfl (by simp)]
  have hu1:=fun c fr s es=>AH1 (c:=c) (fr:=fr) (s:=s) 0 910 γ es
  generalize CR c (A7 c) ⟨f,z,(r:Int),(p:Int)⟩=S at *
  simp only[CT,AD,BF,GJ]at p1 ql qu qq|-
  simp at ql qq
  simp[ASQ,AF,p1,ql,qu,hu1,qq,e0,e3,e4,e5,hsh,hs1,EQ,EY,CD,B6,hb3,hγ]
def OnB(c:AP)(x:Sp):Prop:=ED c x=true/\x.fam<c.fams.length/\0<=x.size/\x.size<=4
theorem AUV(c:AP)(hc:B0 c)(γ:Nat)(B:AA)(x:Sp)(hx:OnB c x)(L:AA)(hL:Lw c γ B L)(rs:List AA)(loc:AA)(hst:FK (rs++[loc]))(cc:Nat)(hcc:γ+1<cc) :
  ∃L' c',Lw c γ B L'/\cc<=c'/\∀n dd fr,G4 (BN cj ann kn (n+600)) (some dd) ⟨cc,fr,⟨L::rs,loc⟩⟩ 129 [.ptr 0 911 (γ+1) 0,.agg (BF x)]=some ⟨c',(dd,true,.agg (GJ (CR c (A7 c) x)))::fr,⟨L'::rs,loc⟩⟩:=by
 obtain⟨h1,h2,h3,h4⟩:=hx
 obtain⟨f,z,r,p⟩:=x
 obtain⟨g1,g2,g3,g4⟩:=RT h1
 simp only at g1 g2 g3 g4 h2 h3 h4
 obtain⟨r,rfl⟩:∃k:Nat,r=k:=⟨r.toNat,by omega⟩
 obtain⟨p,rfl⟩:∃k:Nat,p=k:=⟨p.toNat,by omega⟩
 exact ANG c hc γ B f r p z h2 ⟨h3,h4⟩ g2 g4 L hL rs loc hst cc hcc
theorem at5(R:List AA)(a:AA)(Y:List AA):(R++a::Y)[R.length]? = some a:=by simp
theorem ANH(R:List AA)(a:AA)(Y:List AA)(f:AA->AA):(R++a::Y).modify R.length f=R++f a::Y:=by
 induction R with
 |nil=>rfl
 |cons x R ih=>simpa using ih
def ABV(q:Nat)(Lq:AA)(o:List Sp)(v:V)(cc:Nat):Prop:=(v=.nil/\o=[])\/∃γ es,v=.vec q 921 γ o.length/\Lq.get 921=some (γ,.vec 153 es)/\o.length<=es.length/\(∀k (h:k<o.length) (h2:k<es.length),es[k]=BF o[k])/\(∀e∈es,e.length=4)/\γ<cc
theorem ABV.more{q:Nat}{Lq:AA}{o:List Sp}{v:V}{cc c2:Nat}(h:ABV q Lq o v cc)(hc:cc<=c2):ABV q Lq o v c2:=by
 rcases h with h|⟨γ,es,h1,h2,h3,h4,h5,h6⟩
 ·exact .inl h
 ·exact .inr ⟨γ,es,h1,h2,h3,h4,h5,by omega⟩
theorem AHU(n K:Nat)(U:List AA)(loc:AA)(f:FuncId)(cap:List V)(hco:cap.all (AG 8)=false)(hsh:StU (U++[loc]))(c dd:Nat)(fr:Fr):G4 (BN cj ann kn (n+K+100)) (some dd) ⟨c,fr,⟨U,loc⟩⟩ 189 [.nil,.fn f [] cap]=some ⟨c,(dd,true,i (-1))::fr,⟨U,loc⟩⟩:=by
 have hcl:([V.nil,V.fn f [] cap]).all (AG 9)=false:=by simp[hco]
 have hs:=hsh ⟨U++[loc],[]⟩ (by simp);simp at hs;rw[A5 ck b189 rfl hcl];simp[ALH,AF,AB,hs]
theorem AUW(n K:Nat)(U:List AA)(loc:AA)(f:FuncId)(cap:List V)(_:cap.map weakV=cap)(hco:cap.all (AG 8)=false)(hsh:StU (U++[loc]))(c dd:Nat)(fr:Fr):G4 (BN cj ann kn (n+K+200)) (some dd) ⟨c,fr,⟨U,loc⟩⟩ 171 [.nil,.fn f [] cap]=some ⟨c,(dd,true,.bool false)::fr,⟨U,loc⟩⟩:=by
 have hcl:([V.nil,V.fn f [] cap]).all (AG 9)=false:=by simp[hco]
 have hsh2:StU (U++[loc]++[[]]):=fun t h=>by have:=hsh t (by simp at h|-;omega);rw[bz,this];rfl
 have qq:=AHU (n+97) K (U++[loc]) [] f cap hco hsh2 c 7 [(6,true,.fn f [] cap),(5,true,.nil),(0,true,.nil),(1,true,.fn f [] cap)];have e:n+97+K+100=n+K+197:=by omega
 rw[e]at qq;have hs:=hsh ⟨U++[loc],[]⟩ (by simp);simp at hs;rw[A5 Tryz.func171 b171 rfl hcl];simp[ASM,AF,qq,hs]
theorem AUX(n K:Nat)(U:List AA)(loc:AA)(f:FuncId)(cap:List V)(hco:cap.all (AG 8)=false)(hsh:StU (U++[loc]))(c:Nat)(hcap:∀t:St,U.length+1<=t.up.length->AH t [(3,c,AX.box [V.fn f [] cap])]=[(3,c,AX.box [V.fn f [] cap])])(dd:Nat)(fr:Fr):G4 (BN cj ann kn (n+K+300)) (some dd) ⟨c,fr,⟨U,loc⟩⟩ 137 [.nil,.fn f [] cap]=some ⟨c+1,(dd,true,.bool true)::fr,⟨U,loc⟩⟩:=by
 have hcl:([V.nil,V.fn f [] cap]).all (AG 9)=false:=by simp[hco]
 have hsh2:StU (U++[loc]++[[(3,c,AX.box [V.fn f [] cap])]]):=fun t h=>by
  have h':U.length+1<=t.up.length:=by simp at h;omega
  have:=hsh t (by simpa using h');rw[bz,this];simp only[bq,List.map_nil,hcap t h']
 have qq:=AUW (n+77) (K+20) (U++[loc]) [(3,c,AX.box [V.fn f [] cap])] 172 [.ptr (U.length+1) 3 c 0] (by simp) (by simp) hsh2 (c+1) 7 [(6,true,.fn 172 [] [.ptr (U.length+1) 3 c 0]),(5,true,.nil),(0,true,.nil),(1,true,.fn f [] cap),(3,true,.ptr (U.length+1) 3 c 0)];have e:n+77+(K+20)+200=n+K+297:=by omega
 rw[e]at qq;have hs1:∀t:St,U.length+1<=t.up.length->bt (AH t) U=U/\AH t loc=loc:=fun t h=>by have:=hsh t (by simpa using h);simpa using this
 rw[A5 Tryz.func137 b137 rfl hcl];try simp only[bg,List.length_cons,List.length_nil]at qq|-
 simp[ASN,AF,qq,(hs1 _ _).1,(hs1 _ _).2]
theorem dL{c:AP}(hc:B0 c){x:Sp}(hx:OnB c x):x.fam<c.fams.length/\(0<=x.size/\x.size<=1000)/\-1000<=x.place/\x.place<=1000:=by obtain⟨h1,h2,h3,h4⟩:=hx;have hpl:=hc.be.pl;have:=RT h1;exact⟨h2,by omega,by omega,by omega⟩
theorem ANI(c:AP)(hc:B0 c)(γ:Nat)(B L:AA)(hL:Lw c γ B L)(x:Sp)(hx:OnB c x)(o:List Sp)(ho:∀y∈o,OnB c y)(hol:o.length<=10)(R:List AA)(Lq:AA)(Y:List AA)(v:V)(cc:Nat)(hv:ABV (R.length+1) Lq o v cc)(loc:AA)(g10:Nat)(hloc:loc.get 10=some (g10,.box (BF x)))(hst:StU (L::(R++Lq::Y)++[loc])) :
  ∃c':Nat,cc<=c'/\∀n dd fr,G4 (BN cj ann kn (n+900)) (some dd) ⟨cc,fr,⟨L::(R++Lq::Y),loc⟩⟩ 137 [v,.fn 169 [] [.ref [.ptr 0 911 (γ+1) 0],.ptr (R.length+Y.length+2) 10 g10 0]]=some ⟨c',(dd,true,.bool (o.all (ER c x)))::fr,⟨L::(R++Lq::Y),loc⟩⟩:=by
 have hUl:(L::(R++Lq::Y)).length=R.length+Y.length+2:=by simp;omega
 have hcap:∀t:St,(L::(R++Lq::Y)).length+1<=t.up.length->AH t [(3,cc,AX.box [V.fn 169 [] [.ref [.ptr 0 911 (γ+1) 0],.ptr (R.length+Y.length+2) 10 g10 0]])]=[(3,cc,AX.box [V.fn 169 [] [.ref [.ptr 0 911 (γ+1) 0],.ptr (R.length+Y.length+2) 10 g10 0]])]:=fun t ht=>by
  rw[hUl]at ht;have e0:¬0=t.up.length:=by omega
  have e1:¬R.length+Y.length+2=t.up.length:=by omega
  obtain⟨up,lo⟩:=t;simp only at e0 e1;simp[e1]
 rcases hv with⟨rfl,rfl⟩|⟨γr,es,rfl,v2,v3,v4,v5,v6⟩
 ·refine⟨cc+1,by omega,fun n dd fr=>?_⟩;have qq:=AUX n 600 (L::(R++Lq::Y)) loc 169 [.ref [.ptr 0 911 (γ+1) 0],.ptr (R.length+Y.length+2) 10 g10 0] (by simp) hst cc hcap dd fr;rw[show n+600+300=n+900 by omega]at qq;exact qq
 ·have hr:uP (L :: (R++Lq :: Y)++[loc]) (R.length+1) γr o es:=⟨⟨Lq,by simp,v2⟩,v3,v4⟩;obtain⟨c',h1,qq⟩:=A55 600 (L :: (R++Lq :: Y)) loc 169 [.ref [.ptr 0 911 (γ+1) 0],.ptr (R.length+Y.length+2) 10 g10 0] (by simp) (by simp) (ER c x) o (R.length+1) γr es hr (by omega) hst cc hcap (fun c1 g2 y hc1 hy=>by
   have y1:=dL hc (ho y hy);have x1:=dL hc hx;have qa:=fun n=>ARQ n c x y x1.1 y1.1 x1.2.2 y1.2.2 x1.2.1 y1.2.1;have p1:=hL.p1;refine⟨c1+1,by omega,fun n fr=>?_⟩;rw[A5 Tryz.func169 b169 rfl (by simp)];generalize ER c x y=z at *;have hs:=fun t h=>hst t h;have hg:(L::(R++Lq::Y)++[loc]++[[(3,cc,AX.box [V.fn 169 [] [.ref [.ptr 0 911 (γ+1) 0],.ptr (R.length+Y.length+2) 10 g10 0]])]]++[[]]++[[]]++[[(2,g2,.box (BF y))]])[R.length+Y.length+2]? = some loc:=by rw[<-hUl];simp
   have hs1:∀t:St,(L::(R++Lq::Y)).length+1<=t.up.length->bt (AH t) (L::(R++Lq::Y))=L::(R++Lq::Y)/\AH t loc=loc:=fun t h=>by have:=hst t (by rw[bg,List.length_singleton];exact h);rw[bz]at this;have:=List.append_inj this (by simp);exact⟨this.1,by simpa using this.2⟩
   generalize hU:L::(R++Lq::Y)=U at *;have hU0:∀h:0<U.length,U[0]=L:=fun h=>by simp only[<-hU];rfl
   have hb12:Nat.beq 12 1=false:=rfl;have hu:∀(l:List AA) a b d,CE (l++[a,b,[],[],d])=some (l++[a,b,[],[]],d):=fun l a b d=>by have:=unsnoc_snoc (d:AA) (l++[a,b,[],[]]);rwa [bx]at this
   have hb4:Nat.beq 4 1=false:=rfl;generalize hB3:[(3,cc,AX.box [V.fn 169 [] [.ref [.ptr 0 911 (γ+1) 0],.ptr (R.length+Y.length+2) 10 g10 0]])]=B3 at *;simp only[CT,AD,BF]at p1 qa hloc hg |-;simp only[bx,List.cons_append,List.nil_append]at hg |-;simp[A38,AF,p1,hU0,hu,hloc,hUl,qa,CD,B6,hb12,hb4,AU,BC,AS,(hs1 _ _).1,(hs1 _ _).2,hcap])
  exact⟨c',h1,fun n dd fr=>by
   have qq:=qq n dd fr;rwa [show n+600+300=n+900 by omega]at qq⟩
end Go.Proofs.Tryz.Op
