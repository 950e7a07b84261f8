/- Contracts: IndexFunc, ContainsFunc over List Wrd (B), with a predicate that may keep a state. No condition. (printed by pred-season.py) -/
import Derived.Test.YtmnlpgjklibndaaGreatB1
import Derived.Test.YtmnlpgjklibndaaGreatCa
open Go renaming FuncId->bp
open Go.Proofs.Tryz renaming prog->bn
open List renaming drop_eq_getElem_cons->bj,nil_append->bq,append_assoc->bw,map_append->bx,map_cons->bz,map_nil->bf
open Nat renaming le_refl->bc,zero_le->bg
set_option maxRecDepth 100000
set_option linter.unusedSimpArgs false
open Go Go.Pg Go.Proofs Go.Season
namespace Go.Proofs.Tryz.Op
def iB{σ:Type}(U:σ->List AA)(I:σ->Prop)(K:Nat)(f:bp)(cap:List V)(p:σ->List Wrd->Bool)(nx:σ->List Wrd->σ)(xs:List (List Wrd))(c0:Nat):Prop:=∀n c fr s x,c0<=c->I s->x∈xs->(p s x=false->I (nx s x))/\∃c',c<=c'/\MU (BS bn ann kn (n+K)) (some 16) ⟨c,fr,⟨U s,[]⟩⟩ f (NH x::cap)=some ⟨c',(16,true,.bool (p s x))::fr,⟨U (nx s x),[]⟩⟩
theorem sR{σ:Type}(n K:Nat)(U:σ->List AA)(I:σ->Prop)(f:bp)(cap:List V)(hcw:cap.map weakV=cap)(p:σ->List Wrd->Bool)(nx:σ->List Wrd->σ)(xs:List (List Wrd))(c0:Nat)(hp:iB U I K f cap p nx xs c0)(hl:xs.length<=1000):∀(d k:Nat) (s:σ) (c m:Nat),k+d=xs.length->d<m->c0<=c->I s ->
  ∃(c':Nat) (j:Int),c<=c'/\0<=j/\BR (AG bn ann kn (n+K+50) 19) RE (ann 19 (CU RE)) m ⟨c,[(0,true,.list false (xs.map AM)),(1,true,.fn f [] cap),(7,true,i xs.length),(8,true,i k)],⟨U s,[]⟩⟩ =
   bif (C6 p nx s (xs.drop k)).1 then some (.ret,⟨c',[(4,true,i j),(17,true,i j),(5,true,i j)],⟨U (C6 p nx s (xs.drop k)).2,[]⟩⟩)
   else some (.exit 0,⟨c',[(9,true,.bool false),(0,true,.list false (xs.map AM)),(1,true,.fn f [] cap),(7,true,i xs.length),(8,true,i xs.length)],⟨U (C6 p nx s (xs.drop k)).2,[]⟩⟩)
 |0,k,s,c,m+1,hd,hm,hc0,hi=>by
  have:k=xs.length:=by omega
  subst this;refine⟨c,0,bc _,by omega,?_⟩;simp[AE,C6]
 |d+1,k,s,c,m+1,hd,hm,hc0,hi=>by
  have hk:k<xs.length:=by omega
  have hw:=FB (k:=k) (by omega);have nrm:∀a:Nat,n+K+a=(n+a)+K:=fun a=>by omega
  rw[AE,bj hk];simp only[C6];obtain⟨hi',c1,hc1,q⟩:=hp (n+43) c [(15,true,NH xs[k]),(14,true,.ref (AM xs[k])),(13,true,i k),(12,true,.list false (xs.map AM)),(11,true,.fn f [] cap),(0,true,.list false (xs.map AM)),(1,true,.fn f [] cap),(5,true,i k),(7,true,i xs.length),(8,true,i k)] s xs[k] hc0 hi (List.getElem_mem hk);generalize e:p s xs[k]=b at q hi';cases b with
  |true=>
   refine⟨c1,k,hc1,by omega,?_⟩
   try simp only[AM]at q
   rw[<-nrm]at q
   try simp at q
   simp[hk,hw,AM,q,hcw]
  |false=>
   obtain⟨c',j,h1,h2,ih⟩:=sR n K U I f cap hcw p nx xs c0 hp hl d (k+1) (nx s xs[k]) c1 m (by omega) (by omega) (by omega) (hi' rfl)
   refine⟨c',j,by omega,h2,?_⟩
   try simp only[AM]at q ih
   rw[<-nrm]at q
   try simp at q
   simp at ih
   simp[hk,hw,AM,q,ih,hcw]
theorem AGA{σ:Type}(n K:Nat)(up:σ->List AA)(loc:σ->AA)(I:σ->Prop)(f:bp)(cap:List V)(hcw:cap.map weakV=cap)(hco:cap.all (AK 8)=false)(p:σ->List Wrd->Bool)(nx:σ->List Wrd->σ)(xs:List (List Wrd))(c0:Nat)(hp:iB (fun s=>up s++[loc s]) I K f cap p nx xs c0)(hl:xs.length<=40)(hsh:∀s (t:St),(up s).length+1<=t.up.length->(up s++[loc s]).map (AO t)=up s++[loc s])(c dd:Nat)(fr:Fr)(s:σ)(hc0:c0<=c)(hi:I s) :
  ∃(c':Nat) (j:Int),c<=c'/\decide (0<=j)=(C6 p nx s xs).1/\MU (BS bn ann kn (n+K+100)) (some dd) ⟨c,fr,⟨up s,loc s⟩⟩ 159 [.list false (xs.map AM),.fn f [] cap]=some ⟨c',(dd,true,i j)::fr,⟨up (C6 p nx s xs).2,loc (C6 p nx s xs).2⟩⟩:=by
 obtain⟨c1,j,h1,h2,q⟩:=sR (n+45) K (fun s=>up s++[loc s]) I f cap hcw p nx xs c0 hp (by omega) xs.length 0 s c (n+K+95) (by omega) (by omega) hc0 hi
 have e:n+45+K+50=n+K+95:=by omega
 rw[e]at q
 have hcl:([V.list false (xs.map AM),V.fn f [] cap]).all (AK 9)=false:=by simp[hco]
 have hs:=fun s=>hsh s ⟨up s++[loc s],[]⟩ (by simp)
 simp at hs
 rw[BQ Tryz.func159 b159 rfl hcl]
 simp only[List.drop_zero]at q
 generalize (C6 p nx s xs).2=s' at q|-
 generalize e:(C6 p nx s xs).1=b at q
 cases b with
 |true=>
  refine⟨c1,j,h1,by simpa using h2,?_⟩
  simp at q
  simp[AOF,AH,q,hs]
 |false=>
  refine⟨c1,-1,h1,by simp,?_⟩
  simp at q
  simp[AOF,AH,q,hs]
theorem AJ7{σ:Type}(n K:Nat)(up:σ->List AA)(loc:σ->AA)(I:σ->Prop)(f:bp)(cap:List V)(hcw:cap.map weakV=cap)(hco:cap.all (AK 8)=false)(p:σ->List Wrd->Bool)(nx:σ->List Wrd->σ)(xs:List (List Wrd))(c0:Nat)(hp:iB (fun s=>up s++[loc s]++[[]]) I K f cap p nx xs c0)(hl:xs.length<=40)(hsh:∀s (t:St),(up s).length+1<=t.up.length->(up s++[loc s]).map (AO t)=up s++[loc s])(c dd:Nat)(fr:Fr)(s:σ)(hc0:c0<=c)(hi:I s) :
  ∃c':Nat,c<=c'/\MU (BS bn ann kn (n+K+200)) (some dd) ⟨c,fr,⟨up s,loc s⟩⟩ 131 [.list false (xs.map AM),.fn f [] cap]=some ⟨c',(dd,true,.bool (C6 p nx s xs).1)::fr,⟨up (C6 p nx s xs).2,loc (C6 p nx s xs).2⟩⟩:=by
 have hcl:([V.list false (xs.map AM),V.fn f [] cap]).all (AK 9)=false:=by simp[hco]
 have hsh2:∀s (t:St),(up s++[loc s]).length+1<=t.up.length->(up s++[loc s]++[[]]).map (AO t)=up s++[loc s]++[[]]:=fun s t h=>by have:=hsh s t (by simp at h;omega);simp only[bx,bz,bf,JW]at this|-;rw[this]
 obtain⟨c1,j,h1,h2,q⟩:=AGA (n+97) K (fun s=>up s++[loc s]) (fun _=>[]) I f cap hcw hco p nx xs c0 hp hl hsh2 c 7 [(6,true,.fn f [] cap),(5,true,.list false (xs.map AM)),(0,true,.list false (xs.map AM)),(1,true,.fn f [] cap)] s hc0 hi
 refine⟨c1,h1,?_⟩
 have e:n+97+K+100=n+K+197:=by omega
 rw[e]at q
 have hs:=fun s=>hsh s ⟨up s++[loc s],[]⟩ (by simp)
 simp at hs
 rw[BQ Tryz.func131 b131 rfl hcl]
 simp[A0D,AH,hcw,q,h2,hs]
def iC{σ:Type}(U:σ->List AA)(I:σ->Prop)(K:Nat)(f:bp)(cap:List V)(p:σ->Wrd->Bool)(nx:σ->Wrd->σ)(xs:List (Wrd))(c0:Nat):Prop:=∀n c fr s x,c0<=c->I s->x∈xs->(p s x=false->I (nx s x))/\∃c',c<=c'/\MU (BS bn ann kn (n+K)) (some 16) ⟨c,fr,⟨U s,[]⟩⟩ f (.agg (AJ x)::cap)=some ⟨c',(16,true,.bool (p s x))::fr,⟨U (nx s x),[]⟩⟩
theorem sS{σ:Type}(n K:Nat)(U:σ->List AA)(I:σ->Prop)(f:bp)(cap:List V)(hcw:cap.map weakV=cap)(p:σ->Wrd->Bool)(nx:σ->Wrd->σ)(xs:List (Wrd))(c0:Nat)(hp:iC U I K f cap p nx xs c0)(hl:xs.length<=1000):∀(d k:Nat) (s:σ) (c m:Nat),k+d=xs.length->d<m->c0<=c->I s ->
  ∃(c':Nat) (j:Int),c<=c'/\0<=j/\BR (AG bn ann kn (n+K+50) 19) RF (ann 19 (CU RF)) m ⟨c,[(0,true,.list false (xs.map AJ)),(1,true,.fn f [] cap),(7,true,i xs.length),(8,true,i k)],⟨U s,[]⟩⟩ =
   bif (C6 p nx s (xs.drop k)).1 then some (.ret,⟨c',[(4,true,i j),(17,true,i j),(5,true,i j)],⟨U (C6 p nx s (xs.drop k)).2,[]⟩⟩)
   else some (.exit 0,⟨c',[(9,true,.bool false),(0,true,.list false (xs.map AJ)),(1,true,.fn f [] cap),(7,true,i xs.length),(8,true,i xs.length)],⟨U (C6 p nx s (xs.drop k)).2,[]⟩⟩)
 |0,k,s,c,m+1,hd,hm,hc0,hi=>by
  have:k=xs.length:=by omega
  subst this;refine⟨c,0,bc _,by omega,?_⟩;simp[AE,C6]
 |d+1,k,s,c,m+1,hd,hm,hc0,hi=>by
  have hk:k<xs.length:=by omega
  have hw:=FB (k:=k) (by omega);have nrm:∀a:Nat,n+K+a=(n+a)+K:=fun a=>by omega
  rw[AE,bj hk];simp only[C6];obtain⟨hi',c1,hc1,q⟩:=hp (n+43) c [(15,true,.agg (AJ xs[k])),(14,true,.ref (AJ xs[k])),(13,true,i k),(12,true,.list false (xs.map AJ)),(11,true,.fn f [] cap),(0,true,.list false (xs.map AJ)),(1,true,.fn f [] cap),(5,true,i k),(7,true,i xs.length),(8,true,i k)] s xs[k] hc0 hi (List.getElem_mem hk);generalize e:p s xs[k]=b at q hi';cases b with
  |true=>
   refine⟨c1,k,hc1,by omega,?_⟩
   try simp only[AJ]at q
   rw[<-nrm]at q
   try simp at q
   simp[hk,hw,AJ,q,hcw]
  |false=>
   obtain⟨c',j,h1,h2,ih⟩:=sS n K U I f cap hcw p nx xs c0 hp hl d (k+1) (nx s xs[k]) c1 m (by omega) (by omega) (by omega) (hi' rfl)
   refine⟨c',j,by omega,h2,?_⟩
   try simp only[AJ]at q ih
   rw[<-nrm]at q
   try simp at q
   simp at ih
   simp[hk,hw,AJ,q,ih,hcw]
theorem AGB{σ:Type}(n K:Nat)(up:σ->List AA)(loc:σ->AA)(I:σ->Prop)(f:bp)(cap:List V)(hcw:cap.map weakV=cap)(hco:cap.all (AK 8)=false)(p:σ->Wrd->Bool)(nx:σ->Wrd->σ)(xs:List (Wrd))(c0:Nat)(hp:iC (fun s=>up s++[loc s]) I K f cap p nx xs c0)(hl:xs.length<=40)(hsh:∀s (t:St),(up s).length+1<=t.up.length->(up s++[loc s]).map (AO t)=up s++[loc s])(c dd:Nat)(fr:Fr)(s:σ)(hc0:c0<=c)(hi:I s) :
  ∃(c':Nat) (j:Int),c<=c'/\decide (0<=j)=(C6 p nx s xs).1/\MU (BS bn ann kn (n+K+100)) (some dd) ⟨c,fr,⟨up s,loc s⟩⟩ 161 [.list false (xs.map AJ),.fn f [] cap]=some ⟨c',(dd,true,i j)::fr,⟨up (C6 p nx s xs).2,loc (C6 p nx s xs).2⟩⟩:=by
 obtain⟨c1,j,h1,h2,q⟩:=sS (n+45) K (fun s=>up s++[loc s]) I f cap hcw p nx xs c0 hp (by omega) xs.length 0 s c (n+K+95) (by omega) (by omega) hc0 hi
 have e:n+45+K+50=n+K+95:=by omega
 rw[e]at q
 have hcl:([V.list false (xs.map AJ),V.fn f [] cap]).all (AK 9)=false:=by simp[hco]
 have hs:=fun s=>hsh s ⟨up s++[loc s],[]⟩ (by simp)
 simp at hs
 rw[BQ Tryz.func161 b161 rfl hcl]
 simp only[List.drop_zero]at q
 generalize (C6 p nx s xs).2=s' at q|-
 generalize e:(C6 p nx s xs).1=b at q
 cases b with
 |true=>
  refine⟨c1,j,h1,by simpa using h2,?_⟩
  simp at q
  simp[AOG,AH,q,hs]
 |false=>
  refine⟨c1,-1,h1,by simp,?_⟩
  simp at q
  simp[AOG,AH,q,hs]
theorem AJ8{σ:Type}(n K:Nat)(up:σ->List AA)(loc:σ->AA)(I:σ->Prop)(f:bp)(cap:List V)(hcw:cap.map weakV=cap)(hco:cap.all (AK 8)=false)(p:σ->Wrd->Bool)(nx:σ->Wrd->σ)(xs:List (Wrd))(c0:Nat)(hp:iC (fun s=>up s++[loc s]++[[]]) I K f cap p nx xs c0)(hl:xs.length<=40)(hsh:∀s (t:St),(up s).length+1<=t.up.length->(up s++[loc s]).map (AO t)=up s++[loc s])(c dd:Nat)(fr:Fr)(s:σ)(hc0:c0<=c)(hi:I s) :
  ∃c':Nat,c<=c'/\MU (BS bn ann kn (n+K+200)) (some dd) ⟨c,fr,⟨up s,loc s⟩⟩ 135 [.list false (xs.map AJ),.fn f [] cap]=some ⟨c',(dd,true,.bool (C6 p nx s xs).1)::fr,⟨up (C6 p nx s xs).2,loc (C6 p nx s xs).2⟩⟩:=by
 have hcl:([V.list false (xs.map AJ),V.fn f [] cap]).all (AK 9)=false:=by simp[hco]
 have hsh2:∀s (t:St),(up s++[loc s]).length+1<=t.up.length->(up s++[loc s]++[[]]).map (AO t)=up s++[loc s]++[[]]:=fun s t h=>by have:=hsh s t (by simp at h;omega);simp only[bx,bz,bf,JW]at this|-;rw[this]
 obtain⟨c1,j,h1,h2,q⟩:=AGB (n+97) K (fun s=>up s++[loc s]) (fun _=>[]) I f cap hcw hco p nx xs c0 hp hl hsh2 c 7 [(6,true,.fn f [] cap),(5,true,.list false (xs.map AJ)),(0,true,.list false (xs.map AJ)),(1,true,.fn f [] cap)] s hc0 hi
 refine⟨c1,h1,?_⟩
 have e:n+97+K+100=n+K+197:=by omega
 rw[e]at q
 have hs:=fun s=>hsh s ⟨up s++[loc s],[]⟩ (by simp)
 simp at hs
 rw[BQ Tryz.func135 b135 rfl hcl]
 simp[A0E,AH,hcw,q,h2,hs]
def sc(ls:List AF):V:=.ref [.list false (ls.map AB),.memo [.list false (ls.map AB)]]
theorem ANK{σ:Type}(n K L:Nat)(up:σ->List AA)(loc:σ->AA)(hL:∀s,(up s).length=L)(I:σ->Prop)(f:bp)(cap:List V)(hcw:cap.map weakV=cap)(hco:cap.all (AK 8)=false)(p:σ->List Wrd->Bool)(nx:σ->List Wrd->σ)(xs:List (List Wrd))(hl:xs.length<=40)
  (hsh:∀s (t:St),L+1<=t.up.length->(up s++[loc s]).map (AO t)=up s++[loc s]) (hcap:∀(t:St) γ,L+1<=t.up.length->AO t [(3,γ,AZ.box [V.fn f [] cap])]=[(3,γ,AZ.box [V.fn f [] cap])]) (c:Nat)
  (hp:∀n c1 fr s x,c<c1->I s->x∈xs->(p s x=true->I (nx s x))/\∃c',c1<=c'/\MU (BS bn ann kn (n+K)) (some 6) ⟨c1,fr,⟨up s++[loc s]++[[(3,c,AZ.box [V.fn f [] cap])]]++[[]]++[[]],[]⟩⟩ f (NH x::cap)=some ⟨c',(6,true,.bool (p s x))::fr,⟨up (nx s x)++[loc (nx s x)]++[[(3,c,AZ.box [V.fn f [] cap])]]++[[]]++[[]],[]⟩⟩) (dd:Nat) (fr:Fr) (s:σ) (hi:I s) :
  ∃c':Nat,c<=c'/\MU (BS bn ann kn (n+K+300)) (some dd) ⟨c,fr,⟨up s,loc s⟩⟩ 97 [.list false (xs.map AM),.fn f [] cap]=some ⟨c',(dd,true,.bool (!(C6 (fun s x=>!p s x) nx s xs).1))::fr,⟨up (C6 (fun s x=>!p s x) nx s xs).2,loc (C6 (fun s x=>!p s x) nx s xs).2⟩⟩:=by
 have hcl:([V.list false (xs.map AM),V.fn f [] cap]).all (AK 9)=false:=by simp[rS,hco]
 have hp2:iB (fun s=>up s++[loc s]++[[(3,c,AZ.box [V.fn f [] cap])]]++[[]]) I (K+20) 132 [.ptr (L+1) 3 c 0] (fun s x=>!p s x) nx xs (c+1):=by
  have hcap':∀t:St,L+1<=t.up.length->AO t [(3,c,AZ.box [V.fn f [] cap])]=[(3,c,AZ.box [V.fn f [] cap])]:=fun t h=>hcap t c h;intro n c1 fr s x hc0 hi hx;obtain⟨h1,c',h2,q⟩:=hp (n+17) c1 [(5,true,NH x),(4,true,.fn f [] cap),(0,true,NH x),(1,true,.ptr (L+1) 3 c 0)] s x hc0 hi hx;refine⟨fun h=>h1 (by simpa using h),c',h2,?_⟩;have e:n+17+K=n+K+17:=by omega
  rw[e]at q;rw[show n+(K+20)=n+K+20 from by omega,BQ Tryz.func132 b132 rfl (by simp)];generalize hB:[(3,c,AZ.box [V.fn f [] cap])]=B at q hcap';have hB1:AA.get B 3=some (c,.box [.fn f [] cap]):=by rw[<-hB];rfl
  have hg:(up s++[loc s]++[B]++[[]])[L+1]? = some B:=by simp only[bw];rw[List.getElem?_append_right (by rw[hL];omega)];simp[hL]
  have hs1:∀s (t:St),L+1<=t.up.length->List.map (AO t) (up s)=up s/\AO t (loc s)=loc s:=fun s t h=>by simpa using hsh s t h
  have hu:∀(l:List AA) a b,CV (l++[a,b,[],[]])=some (l++[a,b,[]],[]):=fun l a b=>by have:=unsnoc_snoc ([]:AA) (l++[a,b,[]]);rwa [bw]at this
  simp only[bw,List.cons_append,bq]at q hg|-;simp[hu,AOJ,AH,hcw,q,hg,hL,hB1,(hs1 _ _ _).1,(hs1 _ _ _).2,hcap']
 have hsh2:∀s (t:St),(up s++[loc s]).length+1<=t.up.length->(up s++[loc s]++[[(3,c,AZ.box [V.fn f [] cap])]]).map (AO t)=up s++[loc s]++[[(3,c,AZ.box [V.fn f [] cap])]]:=fun s t h=>by
  have h':L+1<=t.up.length:=by simp[hL]at h;omega
  have:=hsh s t h';have h3:=hcap t c h';rw[bx,this];simp only[bz,bf,h3]
 obtain⟨c',h1,q⟩:=AJ7 (n+77) (K+20) (fun s=>up s++[loc s]) (fun _=>[(3,c,AZ.box [V.fn f [] cap])]) I 132 [.ptr (L+1) 3 c 0] (by simp) (by simp) (fun s x=>!p s x) nx xs (c+1) hp2 hl hsh2 (c+1) 7 [(6,true,.fn 132 [] [.ptr (L+1) 3 c 0]),(5,true,.list false (xs.map AM)),(0,true,.list false (xs.map AM)),(1,true,.fn f [] cap),(3,true,.ptr (L+1) 3 c 0)] s (bc _) hi
 refine⟨c',by omega,?_⟩
 have e:n+77+(K+20)+200=n+K+297:=by omega
 rw[e]at q
 have hs1:∀s (t:St),L+1<=t.up.length->List.map (AO t) (up s)=up s/\AO t (loc s)=loc s:=fun s t h=>by simpa using hsh s t h
 rw[BQ Tryz.func97 b97 rfl hcl]
 try simp only[List.length_append,List.length_cons,List.length_nil]at q|-
 simp[c97,AH,hcw,hL,q,(hs1 _ _ _).1,(hs1 _ _ _).2]
theorem AJ9(n K:Nat)(b:BF)(f:bp)(p:Wrd->Bool)(xs:List (Wrd))(hl:xs.length<=40)(hf:∀n x,x∈xs->A4 bn kn (AG bn ann kn (n+K)) f [.agg (AD b),.agg (AJ x)]=some (.bool (p x)))(hh:BG bn f=false:=by simp) :
  A4 bn kn (AG bn ann kn (n+K+300)) 101 [.list false (xs.map AJ),.fn f [.agg (AD b)] []]=some (.bool (xs.all p)):=by
 rw[AP rfl,AQ Tryz.func101 A0F rfl (by simp[AD,AB,AN,AJ,AM])]
 have hp2:iC (fun (_:Unit)=>[]++[[(3,0,AZ.box [V.fn f [.agg (AD b)] []])]]++[[]]) (fun _=>True) (K+20) 136 [.ptr 0 3 0 0] (fun _ x=>!p x) (fun _ _=>()) xs 0:=by
  intro n c1 fr s x hc0 hi hx;refine⟨fun _=>trivial,c1+1,by omega,?_⟩;have q:=fun n=>hf n x hx;have q2:=q (n+17);have e:n+17+K=n+K+17:=by omega
  rw[e]at q2;simp only[AD,AJ]at q2|-;rw[show n+(K+20)=n+K+20 from by omega,bq,BQ Tryz.func136 b136 rfl (by simp)];simp[AOI,AH,AB,AN,AJ,AM,q2,hh]
 obtain⟨c',h1,q⟩:=AJ8 (n+77) (K+20) (fun _=>[]) (fun _=>[(3,0,.box [.fn f [.agg (AD b)] []])]) (fun _=>True) 136 [.ptr 0 3 0 0] (by simp) (by simp) (fun _ x=>!p x) (fun _ _=>()) xs 0 hp2 hl (by simp[AD,AB,AN,AJ,AM]) 1 7 [(6,true,.fn 136 [] [.ptr 0 3 0 0]),(5,true,.list false (xs.map AJ)),(0,true,.list false (xs.map AJ)),(1,true,.fn f [.agg (AD b)] []),(3,true,.ptr 0 3 0 0)] () (bg _) trivial
 have e:n+77+(K+20)+200=n+K+297:=by omega
 rw[e,GI]at q
 have:=KG p xs
 simp only[AD]at q|-
 simp[AOH,AH,q]
 rw[<-this,Bool.not_not]
theorem AKA(n K:Nat)(ls:List AF)(f:bp)(p:Wrd->Bool)(xs:List (Wrd))(hl:xs.length<=40)(hf:∀n x,x∈xs->A4 bn kn (AG bn ann kn (n+K)) f [sc ls,.agg (AJ x)]=some (.bool (p x)))(hh:BG bn f=false:=by simp) :
  A4 bn kn (AG bn ann kn (n+K+300)) 101 [.list false (xs.map AJ),.fn f [sc ls] []]=some (.bool (xs.all p)):=by
 rw[AP rfl,AQ Tryz.func101 A0F rfl (by simp[sc,AB,AN,AJ,AM])]
 have hp2:iC (fun (_:Unit)=>[]++[[(3,0,AZ.box [V.fn f [sc ls] []])]]++[[]]) (fun _=>True) (K+20) 136 [.ptr 0 3 0 0] (fun _ x=>!p x) (fun _ _=>()) xs 0:=by
  intro n c1 fr s x hc0 hi hx;refine⟨fun _=>trivial,c1+1,by omega,?_⟩;have q:=fun n=>hf n x hx;have q2:=q (n+17);have e:n+17+K=n+K+17:=by omega
  rw[e]at q2;simp only[sc,AJ]at q2|-;rw[show n+(K+20)=n+K+20 from by omega,bq,BQ Tryz.func136 b136 rfl (by simp)];simp[AOI,AH,AB,AN,AJ,AM,q2,hh]
 obtain⟨c',h1,q⟩:=AJ8 (n+77) (K+20) (fun _=>[]) (fun _=>[(3,0,.box [.fn f [sc ls] []])]) (fun _=>True) 136 [.ptr 0 3 0 0] (by simp) (by simp) (fun _ x=>!p x) (fun _ _=>()) xs 0 hp2 hl (by simp[sc,AB,AN,AJ,AM]) 1 7 [(6,true,.fn 136 [] [.ptr 0 3 0 0]),(5,true,.list false (xs.map AJ)),(0,true,.list false (xs.map AJ)),(1,true,.fn f [sc ls] []),(3,true,.ptr 0 3 0 0)] () (bg _) trivial
 have e:n+77+(K+20)+200=n+K+297:=by omega
 rw[e,GI]at q
 have:=KG p xs
 simp only[sc]at q|-
 simp[AOH,AH,q]
 rw[<-this,Bool.not_not]
theorem AY2(n K:Nat)(f:bp)(p:List Wrd->Bool)(xs:List (List Wrd))(hl:xs.length<=40)(hf:∀n x,x∈xs->A4 bn kn (AG bn ann kn (n+K)) f [NH x]=some (.bool (p x)))(hh:BG bn f=false:=by simp) :
  A4 bn kn (AG bn ann kn (n+K+300)) 97 [.list false (xs.map AM),.fn f [] []]=some (.bool (xs.all p)):=by
 rw[AP rfl,AQ Tryz.func97 b97 rfl (by simp[AB,AN,AJ,AM])]
 have hp2:iB (fun (_:Unit)=>[]++[[(3,0,AZ.box [V.fn f [] []])]]++[[]]) (fun _=>True) (K+20) 132 [.ptr 0 3 0 0] (fun _ x=>!p x) (fun _ _=>()) xs 0:=by
  intro n c1 fr s x hc0 hi hx;refine⟨fun _=>trivial,c1+0,by omega,?_⟩;have q:=fun n=>hf n x hx;have q2:=q (n+17);have e:n+17+K=n+K+17:=by omega
  rw[e]at q2;simp only[AM]at q2|-;rw[show n+(K+20)=n+K+20 from by omega,bq,BQ Tryz.func132 b132 rfl (by simp)];simp[AOJ,AH,AB,AN,AJ,AM,q2,hh]
 obtain⟨c',h1,q⟩:=AJ7 (n+77) (K+20) (fun _=>[]) (fun _=>[(3,0,.box [.fn f [] []])]) (fun _=>True) 132 [.ptr 0 3 0 0] (by simp) (by simp) (fun _ x=>!p x) (fun _ _=>()) xs 0 hp2 hl (by simp[AB,AN,AJ,AM]) 1 7 [(6,true,.fn 132 [] [.ptr 0 3 0 0]),(5,true,.list false (xs.map AM)),(0,true,.list false (xs.map AM)),(1,true,.fn f [] []),(3,true,.ptr 0 3 0 0)] () (bg _) trivial
 have e:n+77+(K+20)+200=n+K+297:=by omega
 rw[e,GI]at q
 have:=KG p xs
 skip
 simp[c97,AH,q]
 rw[<-this,Bool.not_not]
end Go.Proofs.Tryz.Op
