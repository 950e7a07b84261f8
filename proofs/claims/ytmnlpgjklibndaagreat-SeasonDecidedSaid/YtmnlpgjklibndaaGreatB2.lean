/- Contracts: IndexFunc, ContainsFunc over List Wrd (B), with a predicate that may keep a state. No condition. (printed by pred-season.py) -/
import Derived.Test.YtmnlpgjklibndaaGreatB1
import Derived.Test.YtmnlpgjklibndaaGreatCa
open Go renaming FuncId->bp
open Go.Proofs.Tryz renaming prog->bn
open List renaming drop_eq_getElem_cons->bj,nil_append->bq,append_assoc->bw,map_append->bx,map_cons->bz,map_nil->bf
open Nat renaming le_refl->bc,zero_le->bg
set_option maxRecDepth 100000
set_option linter.unusedSimpArgs false
open Go Go.Pg Go.Proofs Go.Season
namespace Go.Proofs.Tryz.Op
def kH{σ:Type}(U:σ->List AA)(I:σ->Prop)(K:Nat)(f:bp)(cap:List V)(p:σ->List Wrd->Bool)(nx:σ->List Wrd->σ)(xs:List (List Wrd))(c0:Nat):Prop:=∀n c fr s x,c0<=c->I s->x∈xs->(p s x=false->I (nx s x))/\∃c',c<=c'/\K3 (BX bn ann kn (n+K)) (some 16) ⟨c,fr,⟨U s,[]⟩⟩ f (J2 x::cap)=some ⟨c',(16,true,.bool (p s x))::fr,⟨U (nx s x),[]⟩⟩
theorem vF{σ:Type}(n K:Nat)(U:σ->List AA)(I:σ->Prop)(f:bp)(cap:List V)(hcw:cap.map weakV=cap)(p:σ->List Wrd->Bool)(nx:σ->List Wrd->σ)(xs:List (List Wrd))(c0:Nat)(hp:kH U I K f cap p nx xs c0)(hl:xs.length<=1000):∀(d k:Nat) (s:σ) (c m:Nat),k+d=xs.length->d<m->c0<=c->I s ->
  ∃(c':Nat) (j:Int),c<=c'/\0<=j/\BN (AH bn ann kn (n+K+50) 19) RT (ann 19 (CC RT)) m ⟨c,[(0,true,.list false (xs.map AL)),(1,true,.fn f [] cap),(7,true,i xs.length),(8,true,i k)],⟨U s,[]⟩⟩ =
   bif (C7 p nx s (xs.drop k)).1 then some (.ret,⟨c',[(4,true,i j),(17,true,i j),(5,true,i j)],⟨U (C7 p nx s (xs.drop k)).2,[]⟩⟩)
   else some (.exit 0,⟨c',[(9,true,.bool false),(0,true,.list false (xs.map AL)),(1,true,.fn f [] cap),(7,true,i xs.length),(8,true,i xs.length)],⟨U (C7 p nx s (xs.drop k)).2,[]⟩⟩)
 |0,k,s,c,m+1,hd,hm,hc0,hi=>by
  have:k=xs.length:=by omega
  subst this;refine⟨c,0,bc _,by omega,?_⟩;simp[AD,C7]
 |d+1,k,s,c,m+1,hd,hm,hc0,hi=>by
  have hk:k<xs.length:=by omega
  have hw:=DF (k:=k) (by omega);have nrm:∀a:Nat,n+K+a=(n+a)+K:=fun a=>by omega
  rw[AD,bj hk];simp only[C7];obtain⟨hi',c1,hc1,q⟩:=hp (n+43) c [(15,true,J2 xs[k]),(14,true,.ref (AL xs[k])),(13,true,i k),(12,true,.list false (xs.map AL)),(11,true,.fn f [] cap),(0,true,.list false (xs.map AL)),(1,true,.fn f [] cap),(5,true,i k),(7,true,i xs.length),(8,true,i k)] s xs[k] hc0 hi (List.getElem_mem hk);generalize e:p s xs[k]=b at q hi';cases b with
  |true=>
   refine⟨c1,k,hc1,by omega,?_⟩
   try simp only[AL]at q
   rw[<-nrm]at q
   try simp at q
   simp[hk,hw,AL,q,hcw]
  |false=>
   obtain⟨c',j,h1,h2,ih⟩:=vF n K U I f cap hcw p nx xs c0 hp hl d (k+1) (nx s xs[k]) c1 m (by omega) (by omega) (by omega) (hi' rfl)
   refine⟨c',j,by omega,h2,?_⟩
   try simp only[AL]at q ih
   rw[<-nrm]at q
   try simp at q
   simp at ih
   simp[hk,hw,AL,q,ih,hcw]
theorem AIT{σ:Type}(n K:Nat)(up:σ->List AA)(loc:σ->AA)(I:σ->Prop)(f:bp)(cap:List V)(hcw:cap.map weakV=cap)(hco:cap.all (AK 8)=false)(p:σ->List Wrd->Bool)(nx:σ->List Wrd->σ)(xs:List (List Wrd))(c0:Nat)(hp:kH (fun s=>up s++[loc s]) I K f cap p nx xs c0)(hl:xs.length<=40)(hsh:∀s (t:St),(up s).length+1<=t.up.length->(up s++[loc s]).map (AQ t)=up s++[loc s])(c dd:Nat)(fr:Fr)(s:σ)(hc0:c0<=c)(hi:I s) :
  ∃(c':Nat) (j:Int),c<=c'/\decide (0<=j)=(C7 p nx s xs).1/\K3 (BX bn ann kn (n+K+100)) (some dd) ⟨c,fr,⟨up s,loc s⟩⟩ 159 [.list false (xs.map AL),.fn f [] cap]=some ⟨c',(dd,true,i j)::fr,⟨up (C7 p nx s xs).2,loc (C7 p nx s xs).2⟩⟩:=by
 obtain⟨c1,j,h1,h2,q⟩:=vF (n+45) K (fun s=>up s++[loc s]) I f cap hcw p nx xs c0 hp (by omega) xs.length 0 s c (n+K+95) (by omega) (by omega) hc0 hi
 have e:n+45+K+50=n+K+95:=by omega
 rw[e]at q
 have hcl:([V.list false (xs.map AL),V.fn f [] cap]).all (AK 9)=false:=by simp[hco]
 have hs:=fun s=>hsh s ⟨up s++[loc s],[]⟩ (by simp)
 simp at hs
 rw[BP Tryz.func159 b159 rfl hcl]
 simp only[List.drop_zero]at q
 generalize (C7 p nx s xs).2=s' at q|-
 generalize e:(C7 p nx s xs).1=b at q
 cases b with
 |true=>
  refine⟨c1,j,h1,by simpa using h2,?_⟩
  simp at q
  simp[ARC,AJ,q,hs]
 |false=>
  refine⟨c1,-1,h1,by simp,?_⟩
  simp at q
  simp[ARC,AJ,q,hs]
theorem AMW{σ:Type}(n K:Nat)(up:σ->List AA)(loc:σ->AA)(I:σ->Prop)(f:bp)(cap:List V)(hcw:cap.map weakV=cap)(hco:cap.all (AK 8)=false)(p:σ->List Wrd->Bool)(nx:σ->List Wrd->σ)(xs:List (List Wrd))(c0:Nat)(hp:kH (fun s=>up s++[loc s]++[[]]) I K f cap p nx xs c0)(hl:xs.length<=40)(hsh:∀s (t:St),(up s).length+1<=t.up.length->(up s++[loc s]).map (AQ t)=up s++[loc s])(c dd:Nat)(fr:Fr)(s:σ)(hc0:c0<=c)(hi:I s) :
  ∃c':Nat,c<=c'/\K3 (BX bn ann kn (n+K+200)) (some dd) ⟨c,fr,⟨up s,loc s⟩⟩ 131 [.list false (xs.map AL),.fn f [] cap]=some ⟨c',(dd,true,.bool (C7 p nx s xs).1)::fr,⟨up (C7 p nx s xs).2,loc (C7 p nx s xs).2⟩⟩:=by
 have hcl:([V.list false (xs.map AL),V.fn f [] cap]).all (AK 9)=false:=by simp[hco]
 have hsh2:∀s (t:St),(up s++[loc s]).length+1<=t.up.length->(up s++[loc s]++[[]]).map (AQ t)=up s++[loc s]++[[]]:=fun s t h=>by have:=hsh s t (by simp at h;omega);simp only[bx,bz,bf,KJ]at this|-;rw[this]
 obtain⟨c1,j,h1,h2,q⟩:=AIT (n+97) K (fun s=>up s++[loc s]) (fun _=>[]) I f cap hcw hco p nx xs c0 hp hl hsh2 c 7 [(6,true,.fn f [] cap),(5,true,.list false (xs.map AL)),(0,true,.list false (xs.map AL)),(1,true,.fn f [] cap)] s hc0 hi
 refine⟨c1,h1,?_⟩
 have e:n+97+K+100=n+K+197:=by omega
 rw[e]at q
 have hs:=fun s=>hsh s ⟨up s++[loc s],[]⟩ (by simp)
 simp at hs
 rw[BP Tryz.func131 b131 rfl hcl]
 simp[A3I,AJ,hcw,q,h2,hs]
def kI{σ:Type}(U:σ->List AA)(I:σ->Prop)(K:Nat)(f:bp)(cap:List V)(p:σ->Wrd->Bool)(nx:σ->Wrd->σ)(xs:List (Wrd))(c0:Nat):Prop:=∀n c fr s x,c0<=c->I s->x∈xs->(p s x=false->I (nx s x))/\∃c',c<=c'/\K3 (BX bn ann kn (n+K)) (some 16) ⟨c,fr,⟨U s,[]⟩⟩ f (.agg (AG x)::cap)=some ⟨c',(16,true,.bool (p s x))::fr,⟨U (nx s x),[]⟩⟩
theorem vG{σ:Type}(n K:Nat)(U:σ->List AA)(I:σ->Prop)(f:bp)(cap:List V)(hcw:cap.map weakV=cap)(p:σ->Wrd->Bool)(nx:σ->Wrd->σ)(xs:List (Wrd))(c0:Nat)(hp:kI U I K f cap p nx xs c0)(hl:xs.length<=1000):∀(d k:Nat) (s:σ) (c m:Nat),k+d=xs.length->d<m->c0<=c->I s ->
  ∃(c':Nat) (j:Int),c<=c'/\0<=j/\BN (AH bn ann kn (n+K+50) 19) RU (ann 19 (CC RU)) m ⟨c,[(0,true,.list false (xs.map AG)),(1,true,.fn f [] cap),(7,true,i xs.length),(8,true,i k)],⟨U s,[]⟩⟩ =
   bif (C7 p nx s (xs.drop k)).1 then some (.ret,⟨c',[(4,true,i j),(17,true,i j),(5,true,i j)],⟨U (C7 p nx s (xs.drop k)).2,[]⟩⟩)
   else some (.exit 0,⟨c',[(9,true,.bool false),(0,true,.list false (xs.map AG)),(1,true,.fn f [] cap),(7,true,i xs.length),(8,true,i xs.length)],⟨U (C7 p nx s (xs.drop k)).2,[]⟩⟩)
 |0,k,s,c,m+1,hd,hm,hc0,hi=>by
  have:k=xs.length:=by omega
  subst this;refine⟨c,0,bc _,by omega,?_⟩;simp[AD,C7]
 |d+1,k,s,c,m+1,hd,hm,hc0,hi=>by
  have hk:k<xs.length:=by omega
  have hw:=DF (k:=k) (by omega);have nrm:∀a:Nat,n+K+a=(n+a)+K:=fun a=>by omega
  rw[AD,bj hk];simp only[C7];obtain⟨hi',c1,hc1,q⟩:=hp (n+43) c [(15,true,.agg (AG xs[k])),(14,true,.ref (AG xs[k])),(13,true,i k),(12,true,.list false (xs.map AG)),(11,true,.fn f [] cap),(0,true,.list false (xs.map AG)),(1,true,.fn f [] cap),(5,true,i k),(7,true,i xs.length),(8,true,i k)] s xs[k] hc0 hi (List.getElem_mem hk);generalize e:p s xs[k]=b at q hi';cases b with
  |true=>
   refine⟨c1,k,hc1,by omega,?_⟩
   try simp only[AG]at q
   rw[<-nrm]at q
   try simp at q
   simp[hk,hw,AG,q,hcw]
  |false=>
   obtain⟨c',j,h1,h2,ih⟩:=vG n K U I f cap hcw p nx xs c0 hp hl d (k+1) (nx s xs[k]) c1 m (by omega) (by omega) (by omega) (hi' rfl)
   refine⟨c',j,by omega,h2,?_⟩
   try simp only[AG]at q ih
   rw[<-nrm]at q
   try simp at q
   simp at ih
   simp[hk,hw,AG,q,ih,hcw]
theorem AIU{σ:Type}(n K:Nat)(up:σ->List AA)(loc:σ->AA)(I:σ->Prop)(f:bp)(cap:List V)(hcw:cap.map weakV=cap)(hco:cap.all (AK 8)=false)(p:σ->Wrd->Bool)(nx:σ->Wrd->σ)(xs:List (Wrd))(c0:Nat)(hp:kI (fun s=>up s++[loc s]) I K f cap p nx xs c0)(hl:xs.length<=40)(hsh:∀s (t:St),(up s).length+1<=t.up.length->(up s++[loc s]).map (AQ t)=up s++[loc s])(c dd:Nat)(fr:Fr)(s:σ)(hc0:c0<=c)(hi:I s) :
  ∃(c':Nat) (j:Int),c<=c'/\decide (0<=j)=(C7 p nx s xs).1/\K3 (BX bn ann kn (n+K+100)) (some dd) ⟨c,fr,⟨up s,loc s⟩⟩ 161 [.list false (xs.map AG),.fn f [] cap]=some ⟨c',(dd,true,i j)::fr,⟨up (C7 p nx s xs).2,loc (C7 p nx s xs).2⟩⟩:=by
 obtain⟨c1,j,h1,h2,q⟩:=vG (n+45) K (fun s=>up s++[loc s]) I f cap hcw p nx xs c0 hp (by omega) xs.length 0 s c (n+K+95) (by omega) (by omega) hc0 hi
 have e:n+45+K+50=n+K+95:=by omega
 rw[e]at q
 have hcl:([V.list false (xs.map AG),V.fn f [] cap]).all (AK 9)=false:=by simp[hco]
 have hs:=fun s=>hsh s ⟨up s++[loc s],[]⟩ (by simp)
 simp at hs
 rw[BP Tryz.func161 b161 rfl hcl]
 simp only[List.drop_zero]at q
 generalize (C7 p nx s xs).2=s' at q|-
 generalize e:(C7 p nx s xs).1=b at q
 cases b with
 |true=>
  refine⟨c1,j,h1,by simpa using h2,?_⟩
  simp at q
  simp[ARD,AJ,q,hs]
 |false=>
  refine⟨c1,-1,h1,by simp,?_⟩
  simp at q
  simp[ARD,AJ,q,hs]
theorem AMX{σ:Type}(n K:Nat)(up:σ->List AA)(loc:σ->AA)(I:σ->Prop)(f:bp)(cap:List V)(hcw:cap.map weakV=cap)(hco:cap.all (AK 8)=false)(p:σ->Wrd->Bool)(nx:σ->Wrd->σ)(xs:List (Wrd))(c0:Nat)(hp:kI (fun s=>up s++[loc s]++[[]]) I K f cap p nx xs c0)(hl:xs.length<=40)(hsh:∀s (t:St),(up s).length+1<=t.up.length->(up s++[loc s]).map (AQ t)=up s++[loc s])(c dd:Nat)(fr:Fr)(s:σ)(hc0:c0<=c)(hi:I s) :
  ∃c':Nat,c<=c'/\K3 (BX bn ann kn (n+K+200)) (some dd) ⟨c,fr,⟨up s,loc s⟩⟩ 135 [.list false (xs.map AG),.fn f [] cap]=some ⟨c',(dd,true,.bool (C7 p nx s xs).1)::fr,⟨up (C7 p nx s xs).2,loc (C7 p nx s xs).2⟩⟩:=by
 have hcl:([V.list false (xs.map AG),V.fn f [] cap]).all (AK 9)=false:=by simp[hco]
 have hsh2:∀s (t:St),(up s++[loc s]).length+1<=t.up.length->(up s++[loc s]++[[]]).map (AQ t)=up s++[loc s]++[[]]:=fun s t h=>by have:=hsh s t (by simp at h;omega);simp only[bx,bz,bf,KJ]at this|-;rw[this]
 obtain⟨c1,j,h1,h2,q⟩:=AIU (n+97) K (fun s=>up s++[loc s]) (fun _=>[]) I f cap hcw hco p nx xs c0 hp hl hsh2 c 7 [(6,true,.fn f [] cap),(5,true,.list false (xs.map AG)),(0,true,.list false (xs.map AG)),(1,true,.fn f [] cap)] s hc0 hi
 refine⟨c1,h1,?_⟩
 have e:n+97+K+100=n+K+197:=by omega
 rw[e]at q
 have hs:=fun s=>hsh s ⟨up s++[loc s],[]⟩ (by simp)
 simp at hs
 rw[BP Tryz.func135 b135 rfl hcl]
 simp[A3J,AJ,hcw,q,h2,hs]
def sc(ls:List AF):V:=.ref [.list false (ls.map AB),.memo [.list false (ls.map AB)]]
theorem AQI{σ:Type}(n K L:Nat)(up:σ->List AA)(loc:σ->AA)(hL:∀s,(up s).length=L)(I:σ->Prop)(f:bp)(cap:List V)(hcw:cap.map weakV=cap)(hco:cap.all (AK 8)=false)(p:σ->List Wrd->Bool)(nx:σ->List Wrd->σ)(xs:List (List Wrd))(hl:xs.length<=40)
  (hsh:∀s (t:St),L+1<=t.up.length->(up s++[loc s]).map (AQ t)=up s++[loc s]) (hcap:∀(t:St) γ,L+1<=t.up.length->AQ t [(3,γ,A6.box [V.fn f [] cap])]=[(3,γ,A6.box [V.fn f [] cap])]) (c:Nat)
  (hp:∀n c1 fr s x,c<c1->I s->x∈xs->(p s x=true->I (nx s x))/\∃c',c1<=c'/\K3 (BX bn ann kn (n+K)) (some 6) ⟨c1,fr,⟨up s++[loc s]++[[(3,c,A6.box [V.fn f [] cap])]]++[[]]++[[]],[]⟩⟩ f (J2 x::cap)=some ⟨c',(6,true,.bool (p s x))::fr,⟨up (nx s x)++[loc (nx s x)]++[[(3,c,A6.box [V.fn f [] cap])]]++[[]]++[[]],[]⟩⟩) (dd:Nat) (fr:Fr) (s:σ) (hi:I s) :
  ∃c':Nat,c<=c'/\K3 (BX bn ann kn (n+K+300)) (some dd) ⟨c,fr,⟨up s,loc s⟩⟩ 97 [.list false (xs.map AL),.fn f [] cap]=some ⟨c',(dd,true,.bool (!(C7 (fun s x=>!p s x) nx s xs).1))::fr,⟨up (C7 (fun s x=>!p s x) nx s xs).2,loc (C7 (fun s x=>!p s x) nx s xs).2⟩⟩:=by
 have hcl:([V.list false (xs.map AL),V.fn f [] cap]).all (AK 9)=false:=by simp[uE,hco]
 have hp2:kH (fun s=>up s++[loc s]++[[(3,c,A6.box [V.fn f [] cap])]]++[[]]) I (K+20) 132 [.ptr (L+1) 3 c 0] (fun s x=>!p s x) nx xs (c+1):=by
  have hcap':∀t:St,L+1<=t.up.length->AQ t [(3,c,A6.box [V.fn f [] cap])]=[(3,c,A6.box [V.fn f [] cap])]:=fun t h=>hcap t c h;intro n c1 fr s x hc0 hi hx;obtain⟨h1,c',h2,q⟩:=hp (n+17) c1 [(5,true,J2 x),(4,true,.fn f [] cap),(0,true,J2 x),(1,true,.ptr (L+1) 3 c 0)] s x hc0 hi hx;refine⟨fun h=>h1 (by simpa using h),c',h2,?_⟩;have e:n+17+K=n+K+17:=by omega
  rw[e]at q;rw[show n+(K+20)=n+K+20 from by omega,BP Tryz.func132 b132 rfl (by simp)];generalize hB:[(3,c,A6.box [V.fn f [] cap])]=B at q hcap';have hB1:AA.get B 3=some (c,.box [.fn f [] cap]):=by rw[<-hB];rfl
  have hg:(up s++[loc s]++[B]++[[]])[L+1]? = some B:=by simp only[bw];rw[List.getElem?_append_right (by rw[hL];omega)];simp[hL]
  have hs1:∀s (t:St),L+1<=t.up.length->List.map (AQ t) (up s)=up s/\AQ t (loc s)=loc s:=fun s t h=>by simpa using hsh s t h
  have hu:∀(l:List AA) a b,CW (l++[a,b,[],[]])=some (l++[a,b,[]],[]):=fun l a b=>by have:=unsnoc_snoc ([]:AA) (l++[a,b,[]]);rwa [bw]at this
  simp only[bw,List.cons_append,bq]at q hg|-;simp[hu,ARG,AJ,hcw,q,hg,hL,hB1,(hs1 _ _ _).1,(hs1 _ _ _).2,hcap']
 have hsh2:∀s (t:St),(up s++[loc s]).length+1<=t.up.length->(up s++[loc s]++[[(3,c,A6.box [V.fn f [] cap])]]).map (AQ t)=up s++[loc s]++[[(3,c,A6.box [V.fn f [] cap])]]:=fun s t h=>by
  have h':L+1<=t.up.length:=by simp[hL]at h;omega
  have:=hsh s t h';have h3:=hcap t c h';rw[bx,this];simp only[bz,bf,h3]
 obtain⟨c',h1,q⟩:=AMW (n+77) (K+20) (fun s=>up s++[loc s]) (fun _=>[(3,c,A6.box [V.fn f [] cap])]) I 132 [.ptr (L+1) 3 c 0] (by simp) (by simp) (fun s x=>!p s x) nx xs (c+1) hp2 hl hsh2 (c+1) 7 [(6,true,.fn 132 [] [.ptr (L+1) 3 c 0]),(5,true,.list false (xs.map AL)),(0,true,.list false (xs.map AL)),(1,true,.fn f [] cap),(3,true,.ptr (L+1) 3 c 0)] s (bc _) hi
 refine⟨c',by omega,?_⟩
 have e:n+77+(K+20)+200=n+K+297:=by omega
 rw[e]at q
 have hs1:∀s (t:St),L+1<=t.up.length->List.map (AQ t) (up s)=up s/\AQ t (loc s)=loc s:=fun s t h=>by simpa using hsh s t h
 rw[BP Tryz.func97 b97 rfl hcl]
 try simp only[List.length_append,List.length_cons,List.length_nil]at q|-
 simp[c97,AJ,hcw,hL,q,(hs1 _ _ _).1,(hs1 _ _ _).2]
theorem AMY(n K:Nat)(b:BC)(f:bp)(p:Wrd->Bool)(xs:List (Wrd))(hl:xs.length<=40)(hf:∀n x,x∈xs->AW bn kn (AH bn ann kn (n+K)) f [.agg (AC b),.agg (AG x)]=some (.bool (p x)))(hh:BE bn f=false:=by simp) :
  AW bn kn (AH bn ann kn (n+K+300)) 101 [.list false (xs.map AG),.fn f [.agg (AC b)] []]=some (.bool (xs.all p)):=by
 rw[AO rfl,AP Tryz.func101 A3K rfl (by simp[AC,AB,AM,AG,AL])]
 have hp2:kI (fun (_:Unit)=>[]++[[(3,0,A6.box [V.fn f [.agg (AC b)] []])]]++[[]]) (fun _=>True) (K+20) 136 [.ptr 0 3 0 0] (fun _ x=>!p x) (fun _ _=>()) xs 0:=by
  intro n c1 fr s x hc0 hi hx;refine⟨fun _=>trivial,c1+1,by omega,?_⟩;have q:=fun n=>hf n x hx;have q2:=q (n+17);have e:n+17+K=n+K+17:=by omega
  rw[e]at q2;simp only[AC,AG]at q2|-;rw[show n+(K+20)=n+K+20 from by omega,bq,BP Tryz.func136 b136 rfl (by simp)];simp[ARF,AJ,AB,AM,AG,AL,q2,hh]
 obtain⟨c',h1,q⟩:=AMX (n+77) (K+20) (fun _=>[]) (fun _=>[(3,0,.box [.fn f [.agg (AC b)] []])]) (fun _=>True) 136 [.ptr 0 3 0 0] (by simp) (by simp) (fun _ x=>!p x) (fun _ _=>()) xs 0 hp2 hl (by simp[AC,AB,AM,AG,AL]) 1 7 [(6,true,.fn 136 [] [.ptr 0 3 0 0]),(5,true,.list false (xs.map AG)),(0,true,.list false (xs.map AG)),(1,true,.fn f [.agg (AC b)] []),(3,true,.ptr 0 3 0 0)] () (bg _) trivial
 have e:n+77+(K+20)+200=n+K+297:=by omega
 rw[e,GS]at q
 have:=K1 p xs
 simp only[AC]at q|-
 simp[ARE,AJ,q]
 rw[<-this,Bool.not_not]
theorem AMZ(n K:Nat)(ls:List AF)(f:bp)(p:Wrd->Bool)(xs:List (Wrd))(hl:xs.length<=40)(hf:∀n x,x∈xs->AW bn kn (AH bn ann kn (n+K)) f [sc ls,.agg (AG x)]=some (.bool (p x)))(hh:BE bn f=false:=by simp) :
  AW bn kn (AH bn ann kn (n+K+300)) 101 [.list false (xs.map AG),.fn f [sc ls] []]=some (.bool (xs.all p)):=by
 rw[AO rfl,AP Tryz.func101 A3K rfl (by simp[sc,AB,AM,AG,AL])]
 have hp2:kI (fun (_:Unit)=>[]++[[(3,0,A6.box [V.fn f [sc ls] []])]]++[[]]) (fun _=>True) (K+20) 136 [.ptr 0 3 0 0] (fun _ x=>!p x) (fun _ _=>()) xs 0:=by
  intro n c1 fr s x hc0 hi hx;refine⟨fun _=>trivial,c1+1,by omega,?_⟩;have q:=fun n=>hf n x hx;have q2:=q (n+17);have e:n+17+K=n+K+17:=by omega
  rw[e]at q2;simp only[sc,AG]at q2|-;rw[show n+(K+20)=n+K+20 from by omega,bq,BP Tryz.func136 b136 rfl (by simp)];simp[ARF,AJ,AB,AM,AG,AL,q2,hh]
 obtain⟨c',h1,q⟩:=AMX (n+77) (K+20) (fun _=>[]) (fun _=>[(3,0,.box [.fn f [sc ls] []])]) (fun _=>True) 136 [.ptr 0 3 0 0] (by simp) (by simp) (fun _ x=>!p x) (fun _ _=>()) xs 0 hp2 hl (by simp[sc,AB,AM,AG,AL]) 1 7 [(6,true,.fn 136 [] [.ptr 0 3 0 0]),(5,true,.list false (xs.map AG)),(0,true,.list false (xs.map AG)),(1,true,.fn f [sc ls] []),(3,true,.ptr 0 3 0 0)] () (bg _) trivial
 have e:n+77+(K+20)+200=n+K+297:=by omega
 rw[e,GS]at q
 have:=K1 p xs
 simp only[sc]at q|-
 simp[ARE,AJ,q]
 rw[<-this,Bool.not_not]
theorem A18(n K:Nat)(f:bp)(p:List Wrd->Bool)(xs:List (List Wrd))(hl:xs.length<=40)(hf:∀n x,x∈xs->AW bn kn (AH bn ann kn (n+K)) f [J2 x]=some (.bool (p x)))(hh:BE bn f=false:=by simp) :
  AW bn kn (AH bn ann kn (n+K+300)) 97 [.list false (xs.map AL),.fn f [] []]=some (.bool (xs.all p)):=by
 rw[AO rfl,AP Tryz.func97 b97 rfl (by simp[AB,AM,AG,AL])]
 have hp2:kH (fun (_:Unit)=>[]++[[(3,0,A6.box [V.fn f [] []])]]++[[]]) (fun _=>True) (K+20) 132 [.ptr 0 3 0 0] (fun _ x=>!p x) (fun _ _=>()) xs 0:=by
  intro n c1 fr s x hc0 hi hx;refine⟨fun _=>trivial,c1+0,by omega,?_⟩;have q:=fun n=>hf n x hx;have q2:=q (n+17);have e:n+17+K=n+K+17:=by omega
  rw[e]at q2;simp only[AL]at q2|-;rw[show n+(K+20)=n+K+20 from by omega,bq,BP Tryz.func132 b132 rfl (by simp)];simp[ARG,AJ,AB,AM,AG,AL,q2,hh]
 obtain⟨c',h1,q⟩:=AMW (n+77) (K+20) (fun _=>[]) (fun _=>[(3,0,.box [.fn f [] []])]) (fun _=>True) 132 [.ptr 0 3 0 0] (by simp) (by simp) (fun _ x=>!p x) (fun _ _=>()) xs 0 hp2 hl (by simp[AB,AM,AG,AL]) 1 7 [(6,true,.fn 132 [] [.ptr 0 3 0 0]),(5,true,.list false (xs.map AL)),(0,true,.list false (xs.map AL)),(1,true,.fn f [] []),(3,true,.ptr 0 3 0 0)] () (bg _) trivial
 have e:n+77+(K+20)+200=n+K+297:=by omega
 rw[e,GS]at q
 have:=K1 p xs
 skip
 simp[c97,AJ,q]
 rw[<-this,Bool.not_not]
end Go.Proofs.Tryz.Op
