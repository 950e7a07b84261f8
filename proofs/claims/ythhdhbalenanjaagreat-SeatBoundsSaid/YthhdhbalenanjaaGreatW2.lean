/- What serves the contracts of IndexFunc and its like: a predicate with a state. No condition. (printed by pred.py) -/
import Derived.Test.YthhdhbalenanjaaGreatW1
import Derived.Test.YthhdhbalenanjaaGreatFz
set_option maxRecDepth 100000
set_option linter.unusedSimpArgs false
open Go Go.Pg Go.Proofs Go.Wind
namespace Go.Wind
def BB{σ α:Type}(p:σ→α→Bool)(nx:σ→α→σ):σ→List α→Bool×σ
 |s,[]=>(false,s)
 |s,x::xs=>bif p s x then(true,nx s x) else BB p nx (nx s x) xs
theorem E2{α:Type}(p:α→Bool):∀(xs:List α),BB (fun (_:Unit) x=>p x) (fun _ _=>()) () xs=(xs.any p,())
 |[]=>rfl
 |x::xs=>by simp only[BB,List.any_cons,E2 p xs];cases p x<;>rfl
end Go.Wind
namespace Go.Proofs.Tryz.Op
def nX{σ:Type}(U:σ→List AA)(I:σ→Prop)(K:Nat)(f:FuncId)(cap:List V)(p:σ→Int→Bool)(nx:σ→Int→σ)(xs:List (Int))(c0:Nat):Prop:=∀n c fr s x,c0≤c→I s→x∈xs→(p s x=false→I (nx s x))∧∃c',c≤c'∧G4 (BN Tryz.prog ann kn (n+K)) (some 16) ⟨c,fr,⟨U s,[]⟩⟩ f (i x::cap)=some ⟨c',(16,true,.bool (p s x))::fr,⟨U (nx s x),[]⟩⟩
theorem vV{σ:Type}(n K:Nat)(U:σ→List AA)(I:σ→Prop)(f:FuncId)(cap:List V)(hcw:cap.map weakV=cap)(p:σ→Int→Bool)(nx:σ→Int→σ)(xs:List (Int))(c0:Nat)(hp:nX U I K f cap p nx xs c0)(hl:xs.length≤1000):∀(d k:Nat) (s:σ) (c m:Nat),k+d=xs.length→d<m→c0≤c→I s →
  ∃(c':Nat) (j:Int),c≤c'∧0≤j∧BC (AE Tryz.prog ann kn (n+K+50) 19) R4 (ann 19 (BR R4)) m ⟨c,[(0,true,.list false (xs.map AH)),(1,true,.fn f [] cap),(7,true,i xs.length),(8,true,i k)],⟨U s,[]⟩⟩ =
   bif (BB p nx s (xs.drop k)).1 then some (.ret,⟨c',[(4,true,i j),(17,true,i j),(5,true,i j)],⟨U (BB p nx s (xs.drop k)).2,[]⟩⟩)
   else some (.exit 0,⟨c',[(9,true,.bool false),(0,true,.list false (xs.map AH)),(1,true,.fn f [] cap),(7,true,i xs.length),(8,true,i xs.length)],⟨U (BB p nx s (xs.drop k)).2,[]⟩⟩)
 |0,k,s,c,m+1,hd,hm,hc0,hi=>by
  have:k=xs.length:=by omega
  subst this;refine⟨c,0,Nat.le_refl _,by omega,?_⟩;simp[AC,BB]
 |d+1,k,s,c,m+1,hd,hm,hc0,hi=>by
  have hk:k<xs.length:=by omega
  have hw:=BH (k:=k) (by omega);have nrm:∀a:Nat,n+K+a=(n+a)+K:=fun a=>by omega
  rw[AC,List.drop_eq_getElem_cons hk];simp only[BB];obtain⟨hi',c1,hc1,q⟩:=hp (n+43) c [(15,true,i xs[k]),(14,true,.ref (AH xs[k])),(13,true,i k),(12,true,.list false (xs.map AH)),(11,true,.fn f [] cap),(0,true,.list false (xs.map AH)),(1,true,.fn f [] cap),(5,true,i k),(7,true,i xs.length),(8,true,i k)] s xs[k] hc0 hi (List.getElem_mem hk);generalize e:p s xs[k]=b at q hi';cases b with
  |true=>
   refine⟨c1,k,hc1,by omega,?_⟩
   try simp only[AH]at q
   rw[←nrm]at q
   try simp at q
   simp[hk,hw,AH,q,hcw]
  |false=>
   obtain⟨c',j,h1,h2,ih⟩:=vV n K U I f cap hcw p nx xs c0 hp hl d (k+1) (nx s xs[k]) c1 m (by omega) (by omega) (by omega) (hi' rfl)
   refine⟨c',j,by omega,h2,?_⟩
   try simp only[AH]at q ih
   rw[←nrm]at q
   try simp at q
   simp at ih
   simp[hk,hw,AH,q,ih,hcw]
theorem ALB{σ:Type}(n K:Nat)(up:σ→List AA)(loc:σ→AA)(I:σ→Prop)(f:FuncId)(cap:List V)(hcw:cap.map weakV=cap)(hco:cap.all (AK 8)=false)(p:σ→Int→Bool)(nx:σ→Int→σ)(xs:List (Int))(c0:Nat)(hp:nX (fun s=>up s++[loc s]) I K f cap p nx xs c0)(hl:xs.length≤40)(hsh:∀s (t:St),(up s).length+1≤t.up.length→(up s++[loc s]).map (AL t)=up s++[loc s])(c dd:Nat)(fr:Fr)(s:σ)(hc0:c0≤c)(hi:I s) :
  ∃(c':Nat) (j:Int),c≤c'∧decide (0≤j)=(BB p nx s xs).1∧G4 (BN Tryz.prog ann kn (n+K+100)) (some dd) ⟨c,fr,⟨up s,loc s⟩⟩ 190 [.list false (xs.map AH),.fn f [] cap]=some ⟨c',(dd,true,i j)::fr,⟨up (BB p nx s xs).2,loc (BB p nx s xs).2⟩⟩:=by
 obtain⟨c1,j,h1,h2,q⟩:=vV (n+45) K (fun s=>up s++[loc s]) I f cap hcw p nx xs c0 hp (by omega) xs.length 0 s c (n+K+95) (by omega) (by omega) hc0 hi
 have e:n+45+K+50=n+K+95:=by omega
 rw[e]at q
 have hcl:([V.list false (xs.map AH),V.fn f [] cap]).all (AK 9)=false:=by simp[hco]
 have hs:=fun s=>hsh s ⟨up s++[loc s],[]⟩ (by simp)
 simp at hs
 rw[A7 Tryz.func190 b190 rfl hcl]
 simp only[List.drop_zero]at q
 generalize (BB p nx s xs).2=s' at q⊢
 generalize e:(BB p nx s xs).1=b at q
 cases b with
 |true=>
  refine⟨c1,j,h1,by simpa using h2,?_⟩
  simp at q
  simp[APK,AF,q,hs]
 |false=>
  refine⟨c1,-1,h1,by simp,?_⟩
  simp at q
  simp[APK,AF,q,hs]
theorem AOY{σ:Type}(n K:Nat)(up:σ→List AA)(loc:σ→AA)(I:σ→Prop)(f:FuncId)(cap:List V)(hcw:cap.map weakV=cap)(hco:cap.all (AK 8)=false)(p:σ→Int→Bool)(nx:σ→Int→σ)(xs:List (Int))(c0:Nat)(hp:nX (fun s=>up s++[loc s]++[[]]) I K f cap p nx xs c0)(hl:xs.length≤40)(hsh:∀s (t:St),(up s).length+1≤t.up.length→(up s++[loc s]).map (AL t)=up s++[loc s])(c dd:Nat)(fr:Fr)(s:σ)(hc0:c0≤c)(hi:I s) :
  ∃c':Nat,c≤c'∧G4 (BN Tryz.prog ann kn (n+K+200)) (some dd) ⟨c,fr,⟨up s,loc s⟩⟩ 175 [.list false (xs.map AH),.fn f [] cap]=some ⟨c',(dd,true,.bool (BB p nx s xs).1)::fr,⟨up (BB p nx s xs).2,loc (BB p nx s xs).2⟩⟩:=by
 have hcl:([V.list false (xs.map AH),V.fn f [] cap]).all (AK 9)=false:=by simp[hco]
 have hsh2:∀s (t:St),(up s++[loc s]).length+1≤t.up.length→(up s++[loc s]++[[]]).map (AL t)=up s++[loc s]++[[]]:=fun s t h=>by have:=hsh s t (by simp at h;omega);simp only[List.map_append,List.map_cons,List.map_nil,C5]at this⊢;rw[this]
 obtain⟨c1,j,h1,h2,q⟩:=ALB (n+97) K (fun s=>up s++[loc s]) (fun _=>[]) I f cap hcw hco p nx xs c0 hp hl hsh2 c 7 [(6,true,.fn f [] cap),(5,true,.list false (xs.map AH)),(0,true,.list false (xs.map AH)),(1,true,.fn f [] cap)] s hc0 hi
 refine⟨c1,h1,?_⟩
 have e:n+97+K+100=n+K+197:=by omega
 rw[e]at q
 have hs:=fun s=>hsh s ⟨up s++[loc s],[]⟩ (by simp)
 simp at hs
 rw[A7 Tryz.func175 b175 rfl hcl]
 simp[A06,AF,hcw,q,h2,hs]
theorem AUT{σ:Type}(n K L:Nat)(up:σ→List AA)(loc:σ→AA)(hL:∀s,(up s).length=L)(I:σ→Prop)(f:FuncId)(cap:List V)(hcw:cap.map weakV=cap)(hco:cap.all (AK 8)=false)(p:σ→Int→Bool)(nx:σ→Int→σ)(xs:List (Int))(hl:xs.length≤40)
  (hsh:∀s (t:St),L+1≤t.up.length→(up s++[loc s]).map (AL t)=up s++[loc s]) (hcap:∀(t:St) γ,L+1≤t.up.length→AL t [(3,γ,AZ.box [V.fn f [] cap])]=[(3,γ,AZ.box [V.fn f [] cap])]) (c:Nat)
  (hp:∀n c1 fr s x,c<c1→I s→x∈xs→(p s x=true→I (nx s x))∧∃c',c1≤c'∧G4 (BN Tryz.prog ann kn (n+K)) (some 6) ⟨c1,fr,⟨up s++[loc s]++[[(3,c,AZ.box [V.fn f [] cap])]]++[[]]++[[]],[]⟩⟩ f (i x::cap)=some ⟨c',(6,true,.bool (p s x))::fr,⟨up (nx s x)++[loc (nx s x)]++[[(3,c,AZ.box [V.fn f [] cap])]]++[[]]++[[]],[]⟩⟩) (dd:Nat) (fr:Fr) (s:σ) (hi:I s) :
  ∃c':Nat,c≤c'∧G4 (BN Tryz.prog ann kn (n+K+300)) (some dd) ⟨c,fr,⟨up s,loc s⟩⟩ 144 [.list false (xs.map AH),.fn f [] cap]=some ⟨c',(dd,true,.bool (!(BB (fun s x=>!p s x) nx s xs).1))::fr,⟨up (BB (fun s x=>!p s x) nx s xs).2,loc (BB (fun s x=>!p s x) nx s xs).2⟩⟩:=by
 have hcl:([V.list false (xs.map AH),V.fn f [] cap]).all (AK 9)=false:=by simp[M6,hco]
 have hp2:nX (fun s=>up s++[loc s]++[[(3,c,AZ.box [V.fn f [] cap])]]++[[]]) I (K+20) 176 [.ptr (L+1) 3 c 0] (fun s x=>!p s x) nx xs (c+1):=by
  have hcap':∀t:St,L+1≤t.up.length→AL t [(3,c,AZ.box [V.fn f [] cap])]=[(3,c,AZ.box [V.fn f [] cap])]:=fun t h=>hcap t c h;intro n c1 fr s x hc0 hi hx;obtain⟨h1,c',h2,q⟩:=hp (n+17) c1 [(5,true,i x),(4,true,.fn f [] cap),(0,true,i x),(1,true,.ptr (L+1) 3 c 0)] s x hc0 hi hx;refine⟨fun h=>h1 (by simpa using h),c',h2,?_⟩;have e:n+17+K=n+K+17:=by omega
  rw[e]at q;rw[show n+(K+20)=n+K+20 from by omega,A7 Tryz.func176 b176 rfl (by simp)];generalize hB:[(3,c,AZ.box [V.fn f [] cap])]=B at q hcap';have hB1:AA.get B 3=some (c,.box [.fn f [] cap]):=by rw[←hB];rfl
  have hg:(up s++[loc s]++[B]++[[]])[L+1]? = some B:=by simp only[List.append_assoc];rw[List.getElem?_append_right (by rw[hL];omega)];simp[hL]
  have hs1:∀s (t:St),L+1≤t.up.length→List.map (AL t) (up s)=up s∧AL t (loc s)=loc s:=fun s t h=>by simpa using hsh s t h
  have hu:∀(l:List AA) a b,CX (l++[a,b,[],[]])=some (l++[a,b,[]],[]):=fun l a b=>by have:=D4 ([]:AA) (l++[a,b,[]]);rwa [List.append_assoc]at this
  simp only[List.append_assoc,List.cons_append,List.nil_append]at q hg⊢;simp[hu,APM,AF,hcw,q,hg,hL,hB1,(hs1 _ _ _).1,(hs1 _ _ _).2,hcap']
 have hsh2:∀s (t:St),(up s++[loc s]).length+1≤t.up.length→(up s++[loc s]++[[(3,c,AZ.box [V.fn f [] cap])]]).map (AL t)=up s++[loc s]++[[(3,c,AZ.box [V.fn f [] cap])]]:=fun s t h=>by
  have h':L+1≤t.up.length:=by simp[hL]at h;omega
  have:=hsh s t h';have h3:=hcap t c h';rw[List.map_append,this];simp only[List.map_cons,List.map_nil,h3]
 obtain⟨c',h1,q⟩:=AOY (n+77) (K+20) (fun s=>up s++[loc s]) (fun _=>[(3,c,AZ.box [V.fn f [] cap])]) I 176 [.ptr (L+1) 3 c 0] (by simp) (by simp) (fun s x=>!p s x) nx xs (c+1) hp2 hl hsh2 (c+1) 7 [(6,true,.fn 176 [] [.ptr (L+1) 3 c 0]),(5,true,.list false (xs.map AH)),(0,true,.list false (xs.map AH)),(1,true,.fn f [] cap),(3,true,.ptr (L+1) 3 c 0)] s (Nat.le_refl _) hi
 refine⟨c',by omega,?_⟩
 have e:n+77+(K+20)+200=n+K+297:=by omega
 rw[e]at q
 have hs1:∀s (t:St),L+1≤t.up.length→List.map (AL t) (up s)=up s∧AL t (loc s)=loc s:=fun s t h=>by simpa using hsh s t h
 rw[A7 Tryz.func144 b144 rfl hcl]
 try simp only[List.length_append,List.length_cons,List.length_nil]at q⊢
 simp[APL,AF,hcw,hL,q,(hs1 _ _ _).1,(hs1 _ _ _).2]
theorem AF3(n K:Nat)(f:FuncId)(p:Int→Bool)(xs:List (Int))(hl:xs.length≤40)(hf:∀n x,x∈xs→AW Tryz.prog kn (AE Tryz.prog ann kn (n+K)) f [i x]=some (.bool (p x)))(hh:BE Tryz.prog f=false:=by simp) :
  AW Tryz.prog kn (AE Tryz.prog ann kn (n+K+300)) 144 [.list false (xs.map AH),.fn f [] []]=some (.bool (xs.all p)):=by
 rw[AQ rfl,AP Tryz.func144 b144 rfl (by simp[AB,AH,AM,AG])]
 have hp2:nX (fun (_:Unit)=>[]++[[(3,0,AZ.box [V.fn f [] []])]]++[[]]) (fun _=>True) (K+20) 176 [.ptr 0 3 0 0] (fun _ x=>!p x) (fun _ _=>()) xs 0:=by
  intro n c1 fr s x hc0 hi hx;refine⟨fun _=>trivial,c1+0,by omega,?_⟩;have q:=fun n=>hf n x hx;have q2:=q (n+17);have e:n+17+K=n+K+17:=by omega
  rw[e]at q2;skip;try simp[AH]at q2
  rw[show n+(K+20)=n+K+20 from by omega,List.nil_append,A7 Tryz.func176 b176 rfl (by simp)];simp[APM,AF,AH,q2,hh];try simp[AH,q2,hh]
 obtain⟨c',h1,q⟩:=AOY (n+77) (K+20) (fun _=>[]) (fun _=>[(3,0,.box [.fn f [] []])]) (fun _=>True) 176 [.ptr 0 3 0 0] (by simp) (by simp) (fun _ x=>!p x) (fun _ _=>()) xs 0 hp2 hl (by simp[AB,AH,AM,AG]) 1 7 [(6,true,.fn 176 [] [.ptr 0 3 0 0]),(5,true,.list false (xs.map AH)),(0,true,.list false (xs.map AH)),(1,true,.fn f [] []),(3,true,.ptr 0 3 0 0)] () (Nat.zero_le _) trivial
 have e:n+77+(K+20)+200=n+K+297:=by omega
 rw[e,E2]at q
 have:=IG p xs
 skip
 simp[APL,AF,q]
 rw[←this,Bool.not_not]
def nY{σ:Type}(U:σ→List AA)(I:σ→Prop)(K:Nat)(f:FuncId)(cap:List V)(p:σ→List Int→Bool)(nx:σ→List Int→σ)(xs:List (List Int))(c0:Nat):Prop:=∀n c fr s x,c0≤c→I s→x∈xs→(p s x=false→I (nx s x))∧∃c',c≤c'∧G4 (BN Tryz.prog ann kn (n+K)) (some 16) ⟨c,fr,⟨U s,[]⟩⟩ f (li x::cap)=some ⟨c',(16,true,.bool (p s x))::fr,⟨U (nx s x),[]⟩⟩
theorem vW{σ:Type}(n K:Nat)(U:σ→List AA)(I:σ→Prop)(f:FuncId)(cap:List V)(hcw:cap.map weakV=cap)(p:σ→List Int→Bool)(nx:σ→List Int→σ)(xs:List (List Int))(c0:Nat)(hp:nY U I K f cap p nx xs c0)(hl:xs.length≤1000):∀(d k:Nat) (s:σ) (c m:Nat),k+d=xs.length→d<m→c0≤c→I s →
  ∃(c':Nat) (j:Int),c≤c'∧0≤j∧BC (AE Tryz.prog ann kn (n+K+50) 19) R5 (ann 19 (BR R5)) m ⟨c,[(0,true,.list false (xs.map AM)),(1,true,.fn f [] cap),(7,true,i xs.length),(8,true,i k)],⟨U s,[]⟩⟩ =
   bif (BB p nx s (xs.drop k)).1 then some (.ret,⟨c',[(4,true,i j),(17,true,i j),(5,true,i j)],⟨U (BB p nx s (xs.drop k)).2,[]⟩⟩)
   else some (.exit 0,⟨c',[(9,true,.bool false),(0,true,.list false (xs.map AM)),(1,true,.fn f [] cap),(7,true,i xs.length),(8,true,i xs.length)],⟨U (BB p nx s (xs.drop k)).2,[]⟩⟩)
 |0,k,s,c,m+1,hd,hm,hc0,hi=>by
  have:k=xs.length:=by omega
  subst this;refine⟨c,0,Nat.le_refl _,by omega,?_⟩;simp[AC,BB]
 |d+1,k,s,c,m+1,hd,hm,hc0,hi=>by
  have hk:k<xs.length:=by omega
  have hw:=BH (k:=k) (by omega);have nrm:∀a:Nat,n+K+a=(n+a)+K:=fun a=>by omega
  rw[AC,List.drop_eq_getElem_cons hk];simp only[BB];obtain⟨hi',c1,hc1,q⟩:=hp (n+43) c [(15,true,li xs[k]),(14,true,.ref (AM xs[k])),(13,true,i k),(12,true,.list false (xs.map AM)),(11,true,.fn f [] cap),(0,true,.list false (xs.map AM)),(1,true,.fn f [] cap),(5,true,i k),(7,true,i xs.length),(8,true,i k)] s xs[k] hc0 hi (List.getElem_mem hk);generalize e:p s xs[k]=b at q hi';cases b with
  |true=>
   refine⟨c1,k,hc1,by omega,?_⟩
   try simp only[AM]at q
   rw[←nrm]at q
   try simp at q
   simp[hk,hw,AM,q,hcw]
  |false=>
   obtain⟨c',j,h1,h2,ih⟩:=vW n K U I f cap hcw p nx xs c0 hp hl d (k+1) (nx s xs[k]) c1 m (by omega) (by omega) (by omega) (hi' rfl)
   refine⟨c',j,by omega,h2,?_⟩
   try simp only[AM]at q ih
   rw[←nrm]at q
   try simp at q
   simp at ih
   simp[hk,hw,AM,q,ih,hcw]
theorem ALC{σ:Type}(n K:Nat)(up:σ→List AA)(loc:σ→AA)(I:σ→Prop)(f:FuncId)(cap:List V)(hcw:cap.map weakV=cap)(hco:cap.all (AK 8)=false)(p:σ→List Int→Bool)(nx:σ→List Int→σ)(xs:List (List Int))(c0:Nat)(hp:nY (fun s=>up s++[loc s]) I K f cap p nx xs c0)(hl:xs.length≤40)(hsh:∀s (t:St),(up s).length+1≤t.up.length→(up s++[loc s]).map (AL t)=up s++[loc s])(c dd:Nat)(fr:Fr)(s:σ)(hc0:c0≤c)(hi:I s) :
  ∃(c':Nat) (j:Int),c≤c'∧decide (0≤j)=(BB p nx s xs).1∧G4 (BN Tryz.prog ann kn (n+K+100)) (some dd) ⟨c,fr,⟨up s,loc s⟩⟩ 191 [.list false (xs.map AM),.fn f [] cap]=some ⟨c',(dd,true,i j)::fr,⟨up (BB p nx s xs).2,loc (BB p nx s xs).2⟩⟩:=by
 obtain⟨c1,j,h1,h2,q⟩:=vW (n+45) K (fun s=>up s++[loc s]) I f cap hcw p nx xs c0 hp (by omega) xs.length 0 s c (n+K+95) (by omega) (by omega) hc0 hi
 have e:n+45+K+50=n+K+95:=by omega
 rw[e]at q
 have hcl:([V.list false (xs.map AM),V.fn f [] cap]).all (AK 9)=false:=by simp[hco]
 have hs:=fun s=>hsh s ⟨up s++[loc s],[]⟩ (by simp)
 simp at hs
 rw[A7 Tryz.func191 b191 rfl hcl]
 simp only[List.drop_zero]at q
 generalize (BB p nx s xs).2=s' at q⊢
 generalize e:(BB p nx s xs).1=b at q
 cases b with
 |true=>
  refine⟨c1,j,h1,by simpa using h2,?_⟩
  simp at q
  simp[APN,AF,q,hs]
 |false=>
  refine⟨c1,-1,h1,by simp,?_⟩
  simp at q
  simp[APN,AF,q,hs]
theorem AOZ{σ:Type}(n K:Nat)(up:σ→List AA)(loc:σ→AA)(I:σ→Prop)(f:FuncId)(cap:List V)(hcw:cap.map weakV=cap)(hco:cap.all (AK 8)=false)(p:σ→List Int→Bool)(nx:σ→List Int→σ)(xs:List (List Int))(c0:Nat)(hp:nY (fun s=>up s++[loc s]++[[]]) I K f cap p nx xs c0)(hl:xs.length≤40)(hsh:∀s (t:St),(up s).length+1≤t.up.length→(up s++[loc s]).map (AL t)=up s++[loc s])(c dd:Nat)(fr:Fr)(s:σ)(hc0:c0≤c)(hi:I s) :
  ∃c':Nat,c≤c'∧G4 (BN Tryz.prog ann kn (n+K+200)) (some dd) ⟨c,fr,⟨up s,loc s⟩⟩ 177 [.list false (xs.map AM),.fn f [] cap]=some ⟨c',(dd,true,.bool (BB p nx s xs).1)::fr,⟨up (BB p nx s xs).2,loc (BB p nx s xs).2⟩⟩:=by
 have hcl:([V.list false (xs.map AM),V.fn f [] cap]).all (AK 9)=false:=by simp[hco]
 have hsh2:∀s (t:St),(up s++[loc s]).length+1≤t.up.length→(up s++[loc s]++[[]]).map (AL t)=up s++[loc s]++[[]]:=fun s t h=>by have:=hsh s t (by simp at h;omega);simp only[List.map_append,List.map_cons,List.map_nil,C5]at this⊢;rw[this]
 obtain⟨c1,j,h1,h2,q⟩:=ALC (n+97) K (fun s=>up s++[loc s]) (fun _=>[]) I f cap hcw hco p nx xs c0 hp hl hsh2 c 7 [(6,true,.fn f [] cap),(5,true,.list false (xs.map AM)),(0,true,.list false (xs.map AM)),(1,true,.fn f [] cap)] s hc0 hi
 refine⟨c1,h1,?_⟩
 have e:n+97+K+100=n+K+197:=by omega
 rw[e]at q
 have hs:=fun s=>hsh s ⟨up s++[loc s],[]⟩ (by simp)
 simp at hs
 rw[A7 Tryz.func177 b177 rfl hcl]
 simp[A07,AF,hcw,q,h2,hs]
theorem AUU{σ:Type}(n K L:Nat)(up:σ→List AA)(loc:σ→AA)(hL:∀s,(up s).length=L)(I:σ→Prop)(f:FuncId)(cap:List V)(hcw:cap.map weakV=cap)(hco:cap.all (AK 8)=false)(p:σ→List Int→Bool)(nx:σ→List Int→σ)(xs:List (List Int))(hl:xs.length≤40)
  (hsh:∀s (t:St),L+1≤t.up.length→(up s++[loc s]).map (AL t)=up s++[loc s]) (hcap:∀(t:St) γ,L+1≤t.up.length→AL t [(3,γ,AZ.box [V.fn f [] cap])]=[(3,γ,AZ.box [V.fn f [] cap])]) (c:Nat)
  (hp:∀n c1 fr s x,c<c1→I s→x∈xs→(p s x=true→I (nx s x))∧∃c',c1≤c'∧G4 (BN Tryz.prog ann kn (n+K)) (some 6) ⟨c1,fr,⟨up s++[loc s]++[[(3,c,AZ.box [V.fn f [] cap])]]++[[]]++[[]],[]⟩⟩ f (li x::cap)=some ⟨c',(6,true,.bool (p s x))::fr,⟨up (nx s x)++[loc (nx s x)]++[[(3,c,AZ.box [V.fn f [] cap])]]++[[]]++[[]],[]⟩⟩) (dd:Nat) (fr:Fr) (s:σ) (hi:I s) :
  ∃c':Nat,c≤c'∧G4 (BN Tryz.prog ann kn (n+K+300)) (some dd) ⟨c,fr,⟨up s,loc s⟩⟩ 147 [.list false (xs.map AM),.fn f [] cap]=some ⟨c',(dd,true,.bool (!(BB (fun s x=>!p s x) nx s xs).1))::fr,⟨up (BB (fun s x=>!p s x) nx s xs).2,loc (BB (fun s x=>!p s x) nx s xs).2⟩⟩:=by
 have hcl:([V.list false (xs.map AM),V.fn f [] cap]).all (AK 9)=false:=by simp[M6,hco]
 have hp2:nY (fun s=>up s++[loc s]++[[(3,c,AZ.box [V.fn f [] cap])]]++[[]]) I (K+20) 178 [.ptr (L+1) 3 c 0] (fun s x=>!p s x) nx xs (c+1):=by
  have hcap':∀t:St,L+1≤t.up.length→AL t [(3,c,AZ.box [V.fn f [] cap])]=[(3,c,AZ.box [V.fn f [] cap])]:=fun t h=>hcap t c h;intro n c1 fr s x hc0 hi hx;obtain⟨h1,c',h2,q⟩:=hp (n+17) c1 [(5,true,li x),(4,true,.fn f [] cap),(0,true,li x),(1,true,.ptr (L+1) 3 c 0)] s x hc0 hi hx;refine⟨fun h=>h1 (by simpa using h),c',h2,?_⟩;have e:n+17+K=n+K+17:=by omega
  rw[e]at q;rw[show n+(K+20)=n+K+20 from by omega,A7 Tryz.func178 b178 rfl (by simp)];generalize hB:[(3,c,AZ.box [V.fn f [] cap])]=B at q hcap';have hB1:AA.get B 3=some (c,.box [.fn f [] cap]):=by rw[←hB];rfl
  have hg:(up s++[loc s]++[B]++[[]])[L+1]? = some B:=by simp only[List.append_assoc];rw[List.getElem?_append_right (by rw[hL];omega)];simp[hL]
  have hs1:∀s (t:St),L+1≤t.up.length→List.map (AL t) (up s)=up s∧AL t (loc s)=loc s:=fun s t h=>by simpa using hsh s t h
  have hu:∀(l:List AA) a b,CX (l++[a,b,[],[]])=some (l++[a,b,[]],[]):=fun l a b=>by have:=D4 ([]:AA) (l++[a,b,[]]);rwa [List.append_assoc]at this
  simp only[List.append_assoc,List.cons_append,List.nil_append]at q hg⊢;simp[hu,APP,AF,hcw,q,hg,hL,hB1,(hs1 _ _ _).1,(hs1 _ _ _).2,hcap']
 have hsh2:∀s (t:St),(up s++[loc s]).length+1≤t.up.length→(up s++[loc s]++[[(3,c,AZ.box [V.fn f [] cap])]]).map (AL t)=up s++[loc s]++[[(3,c,AZ.box [V.fn f [] cap])]]:=fun s t h=>by
  have h':L+1≤t.up.length:=by simp[hL]at h;omega
  have:=hsh s t h';have h3:=hcap t c h';rw[List.map_append,this];simp only[List.map_cons,List.map_nil,h3]
 obtain⟨c',h1,q⟩:=AOZ (n+77) (K+20) (fun s=>up s++[loc s]) (fun _=>[(3,c,AZ.box [V.fn f [] cap])]) I 178 [.ptr (L+1) 3 c 0] (by simp) (by simp) (fun s x=>!p s x) nx xs (c+1) hp2 hl hsh2 (c+1) 7 [(6,true,.fn 178 [] [.ptr (L+1) 3 c 0]),(5,true,.list false (xs.map AM)),(0,true,.list false (xs.map AM)),(1,true,.fn f [] cap),(3,true,.ptr (L+1) 3 c 0)] s (Nat.le_refl _) hi
 refine⟨c',by omega,?_⟩
 have e:n+77+(K+20)+200=n+K+297:=by omega
 rw[e]at q
 have hs1:∀s (t:St),L+1≤t.up.length→List.map (AL t) (up s)=up s∧AL t (loc s)=loc s:=fun s t h=>by simpa using hsh s t h
 rw[A7 Tryz.func147 b147 rfl hcl]
 try simp only[List.length_append,List.length_cons,List.length_nil]at q⊢
 simp[APO,AF,hcw,hL,q,(hs1 _ _ _).1,(hs1 _ _ _).2]
theorem A8T(n K:Nat)(f:FuncId)(p:List Int→Bool)(xs:List (List Int))(hl:xs.length≤40)(hf:∀n x,x∈xs→AW Tryz.prog kn (AE Tryz.prog ann kn (n+K)) f [li x]=some (.bool (p x)))(hh:BE Tryz.prog f=false:=by simp) :
  AW Tryz.prog kn (AE Tryz.prog ann kn (n+K+300)) 147 [.list false (xs.map AM),.fn f [] []]=some (.bool (xs.all p)):=by
 rw[AQ rfl,AP Tryz.func147 b147 rfl (by simp[AB,AH,AM,AG])]
 have hp2:nY (fun (_:Unit)=>[]++[[(3,0,AZ.box [V.fn f [] []])]]++[[]]) (fun _=>True) (K+20) 178 [.ptr 0 3 0 0] (fun _ x=>!p x) (fun _ _=>()) xs 0:=by
  intro n c1 fr s x hc0 hi hx;refine⟨fun _=>trivial,c1+0,by omega,?_⟩;have q:=fun n=>hf n x hx;have q2:=q (n+17);have e:n+17+K=n+K+17:=by omega
  rw[e]at q2;skip;try simp[AH]at q2
  rw[show n+(K+20)=n+K+20 from by omega,List.nil_append,A7 Tryz.func178 b178 rfl (by simp)];simp[APP,AF,AH,q2,hh];try simp[AH,q2,hh]
 obtain⟨c',h1,q⟩:=AOZ (n+77) (K+20) (fun _=>[]) (fun _=>[(3,0,.box [.fn f [] []])]) (fun _=>True) 178 [.ptr 0 3 0 0] (by simp) (by simp) (fun _ x=>!p x) (fun _ _=>()) xs 0 hp2 hl (by simp[AB,AH,AM,AG]) 1 7 [(6,true,.fn 178 [] [.ptr 0 3 0 0]),(5,true,.list false (xs.map AM)),(0,true,.list false (xs.map AM)),(1,true,.fn f [] []),(3,true,.ptr 0 3 0 0)] () (Nat.zero_le _) trivial
 have e:n+77+(K+20)+200=n+K+297:=by omega
 rw[e,E2]at q
 have:=IG p xs
 skip
 simp[APO,AF,q]
 rw[←this,Bool.not_not]
def vX{σ:Type}(U:σ→List AA)(I:σ→Prop)(K:Nat)(f:FuncId)(cap:List V)(p:σ→Int×Int→Bool)(nx:σ→Int×Int→σ)(xs:List (Int×Int))(c0:Nat):Prop:=∀n c fr s x,c0≤c→I s→x∈xs→(p s x=false→I (nx s x))∧∃c',c≤c'∧G4 (BN Tryz.prog ann kn (n+K)) (some 16) ⟨c,fr,⟨U s,[]⟩⟩ f (.agg (AG x)::cap)=some ⟨c',(16,true,.bool (p s x))::fr,⟨U (nx s x),[]⟩⟩
theorem vY{σ:Type}(n K:Nat)(U:σ→List AA)(I:σ→Prop)(f:FuncId)(cap:List V)(hcw:cap.map weakV=cap)(p:σ→Int×Int→Bool)(nx:σ→Int×Int→σ)(xs:List (Int×Int))(c0:Nat)(hp:vX U I K f cap p nx xs c0)(hl:xs.length≤1000):∀(d k:Nat) (s:σ) (c m:Nat),k+d=xs.length→d<m→c0≤c→I s →
  ∃(c':Nat) (j:Int),c≤c'∧0≤j∧BC (AE Tryz.prog ann kn (n+K+50) 19) R6 (ann 19 (BR R6)) m ⟨c,[(0,true,.list false (xs.map AG)),(1,true,.fn f [] cap),(7,true,i xs.length),(8,true,i k)],⟨U s,[]⟩⟩ =
   bif (BB p nx s (xs.drop k)).1 then some (.ret,⟨c',[(4,true,i j),(17,true,i j),(5,true,i j)],⟨U (BB p nx s (xs.drop k)).2,[]⟩⟩)
   else some (.exit 0,⟨c',[(9,true,.bool false),(0,true,.list false (xs.map AG)),(1,true,.fn f [] cap),(7,true,i xs.length),(8,true,i xs.length)],⟨U (BB p nx s (xs.drop k)).2,[]⟩⟩)
 |0,k,s,c,m+1,hd,hm,hc0,hi=>by
  have:k=xs.length:=by omega
  subst this;refine⟨c,0,Nat.le_refl _,by omega,?_⟩;simp[AC,BB]
 |d+1,k,s,c,m+1,hd,hm,hc0,hi=>by
  have hk:k<xs.length:=by omega
  have hw:=BH (k:=k) (by omega);have nrm:∀a:Nat,n+K+a=(n+a)+K:=fun a=>by omega
  rw[AC,List.drop_eq_getElem_cons hk];simp only[BB];obtain⟨hi',c1,hc1,q⟩:=hp (n+43) c [(15,true,.agg (AG xs[k])),(14,true,.ref (AG xs[k])),(13,true,i k),(12,true,.list false (xs.map AG)),(11,true,.fn f [] cap),(0,true,.list false (xs.map AG)),(1,true,.fn f [] cap),(5,true,i k),(7,true,i xs.length),(8,true,i k)] s xs[k] hc0 hi (List.getElem_mem hk);generalize e:p s xs[k]=b at q hi';cases b with
  |true=>
   refine⟨c1,k,hc1,by omega,?_⟩
   try simp only[AG]at q
   rw[←nrm]at q
   try simp at q
   simp[hk,hw,AG,q,hcw]
  |false=>
   obtain⟨c',j,h1,h2,ih⟩:=vY n K U I f cap hcw p nx xs c0 hp hl d (k+1) (nx s xs[k]) c1 m (by omega) (by omega) (by omega) (hi' rfl)
   refine⟨c',j,by omega,h2,?_⟩
   try simp only[AG]at q ih
   rw[←nrm]at q
   try simp at q
   simp at ih
   simp[hk,hw,AG,q,ih,hcw]
theorem ALD{σ:Type}(n K:Nat)(up:σ→List AA)(loc:σ→AA)(I:σ→Prop)(f:FuncId)(cap:List V)(hcw:cap.map weakV=cap)(hco:cap.all (AK 8)=false)(p:σ→Int×Int→Bool)(nx:σ→Int×Int→σ)(xs:List (Int×Int))(c0:Nat)(hp:vX (fun s=>up s++[loc s]) I K f cap p nx xs c0)(hl:xs.length≤40)(hsh:∀s (t:St),(up s).length+1≤t.up.length→(up s++[loc s]).map (AL t)=up s++[loc s])(c dd:Nat)(fr:Fr)(s:σ)(hc0:c0≤c)(hi:I s) :
  ∃(c':Nat) (j:Int),c≤c'∧decide (0≤j)=(BB p nx s xs).1∧G4 (BN Tryz.prog ann kn (n+K+100)) (some dd) ⟨c,fr,⟨up s,loc s⟩⟩ 192 [.list false (xs.map AG),.fn f [] cap]=some ⟨c',(dd,true,i j)::fr,⟨up (BB p nx s xs).2,loc (BB p nx s xs).2⟩⟩:=by
 obtain⟨c1,j,h1,h2,q⟩:=vY (n+45) K (fun s=>up s++[loc s]) I f cap hcw p nx xs c0 hp (by omega) xs.length 0 s c (n+K+95) (by omega) (by omega) hc0 hi
 have e:n+45+K+50=n+K+95:=by omega
 rw[e]at q
 have hcl:([V.list false (xs.map AG),V.fn f [] cap]).all (AK 9)=false:=by simp[hco]
 have hs:=fun s=>hsh s ⟨up s++[loc s],[]⟩ (by simp)
 simp at hs
 rw[A7 Tryz.func192 b192 rfl hcl]
 simp only[List.drop_zero]at q
 generalize (BB p nx s xs).2=s' at q⊢
 generalize e:(BB p nx s xs).1=b at q
 cases b with
 |true=>
  refine⟨c1,j,h1,by simpa using h2,?_⟩
  simp at q
  simp[APR,AF,q,hs]
 |false=>
  refine⟨c1,-1,h1,by simp,?_⟩
  simp at q
  simp[APR,AF,q,hs]
theorem AO0{σ:Type}(n K:Nat)(up:σ→List AA)(loc:σ→AA)(I:σ→Prop)(f:FuncId)(cap:List V)(hcw:cap.map weakV=cap)(hco:cap.all (AK 8)=false)(p:σ→Int×Int→Bool)(nx:σ→Int×Int→σ)(xs:List (Int×Int))(c0:Nat)(hp:vX (fun s=>up s++[loc s]++[[]]) I K f cap p nx xs c0)(hl:xs.length≤40)(hsh:∀s (t:St),(up s).length+1≤t.up.length→(up s++[loc s]).map (AL t)=up s++[loc s])(c dd:Nat)(fr:Fr)(s:σ)(hc0:c0≤c)(hi:I s) :
  ∃c':Nat,c≤c'∧G4 (BN Tryz.prog ann kn (n+K+200)) (some dd) ⟨c,fr,⟨up s,loc s⟩⟩ 180 [.list false (xs.map AG),.fn f [] cap]=some ⟨c',(dd,true,.bool (BB p nx s xs).1)::fr,⟨up (BB p nx s xs).2,loc (BB p nx s xs).2⟩⟩:=by
 have hcl:([V.list false (xs.map AG),V.fn f [] cap]).all (AK 9)=false:=by simp[hco]
 have hsh2:∀s (t:St),(up s++[loc s]).length+1≤t.up.length→(up s++[loc s]++[[]]).map (AL t)=up s++[loc s]++[[]]:=fun s t h=>by have:=hsh s t (by simp at h;omega);simp only[List.map_append,List.map_cons,List.map_nil,C5]at this⊢;rw[this]
 obtain⟨c1,j,h1,h2,q⟩:=ALD (n+97) K (fun s=>up s++[loc s]) (fun _=>[]) I f cap hcw hco p nx xs c0 hp hl hsh2 c 7 [(6,true,.fn f [] cap),(5,true,.list false (xs.map AG)),(0,true,.list false (xs.map AG)),(1,true,.fn f [] cap)] s hc0 hi
 refine⟨c1,h1,?_⟩
 have e:n+97+K+100=n+K+197:=by omega
 rw[e]at q
 have hs:=fun s=>hsh s ⟨up s++[loc s],[]⟩ (by simp)
 simp at hs
 rw[A7 Tryz.func180 b180 rfl hcl]
 simp[A1F,AF,hcw,q,h2,hs]
theorem A8U(n K:Nat)(b:AJ)(f:FuncId)(p:Int×Int→Bool)(xs:List (Int×Int))(hl:xs.length≤40)(hf:∀n x,x∈xs→AW Tryz.prog kn (AE Tryz.prog ann kn (n+K)) f [.agg (AB b),.agg (AG x)]=some (.bool (p x)))(hh:BE Tryz.prog f=false:=by simp) :
  AW Tryz.prog kn (AE Tryz.prog ann kn (n+K+300)) 149 [.list false (xs.map AG),.fn f [.agg (AB b)] []]=some (.bool (xs.all p)):=by
 rw[AQ rfl,AP Tryz.func149 BC9 rfl (by simp[AB,AH,AM,AG])]
 have hp2:vX (fun (_:Unit)=>[]++[[(3,0,AZ.box [V.fn f [.agg (AB b)] []])]]++[[]]) (fun _=>True) (K+20) 181 [.ptr 0 3 0 0] (fun _ x=>!p x) (fun _ _=>()) xs 0:=by
  intro n c1 fr s x hc0 hi hx;refine⟨fun _=>trivial,c1+1,by omega,?_⟩;have q:=fun n=>hf n x hx;have q2:=q (n+17);have e:n+17+K=n+K+17:=by omega
  rw[e]at q2;simp only[AB,AG]at q2⊢;try simp[AH]at q2
  rw[show n+(K+20)=n+K+20 from by omega,List.nil_append,A7 Tryz.func181 b181 rfl (by simp)];simp[A1H,AF,AB,AH,AM,AG,q2,hh];try simp[AB,AH,AM,AG,q2,hh]
 obtain⟨c',h1,q⟩:=AO0 (n+77) (K+20) (fun _=>[]) (fun _=>[(3,0,.box [.fn f [.agg (AB b)] []])]) (fun _=>True) 181 [.ptr 0 3 0 0] (by simp) (by simp) (fun _ x=>!p x) (fun _ _=>()) xs 0 hp2 hl (by simp[AB,AH,AM,AG]) 1 7 [(6,true,.fn 181 [] [.ptr 0 3 0 0]),(5,true,.list false (xs.map AG)),(0,true,.list false (xs.map AG)),(1,true,.fn f [.agg (AB b)] []),(3,true,.ptr 0 3 0 0)] () (Nat.zero_le _) trivial
 have e:n+77+(K+20)+200=n+K+297:=by omega
 rw[e,E2]at q
 have:=IG p xs
 simp only[AB]at q⊢
 simp[A1G,AF,q]
 rw[←this,Bool.not_not]
def vZ{σ:Type}(U:σ→List AA)(I:σ→Prop)(K:Nat)(f:FuncId)(cap:List V)(p:σ→Int×Int→Bool)(nx:σ→Int×Int→σ)(xs:List (Int×Int))(c0:Nat):Prop:=∀n c fr s x,c0≤c→I s→x∈xs→(p s x=false→I (nx s x))∧∃c',c≤c'∧G4 (BN Tryz.prog ann kn (n+K)) (some 16) ⟨c,fr,⟨U s,[]⟩⟩ f (.agg (AG x)::cap)=some ⟨c',(16,true,.bool (p s x))::fr,⟨U (nx s x),[]⟩⟩
theorem wA{σ:Type}(n K:Nat)(U:σ→List AA)(I:σ→Prop)(f:FuncId)(cap:List V)(hcw:cap.map weakV=cap)(p:σ→Int×Int→Bool)(nx:σ→Int×Int→σ)(xs:List (Int×Int))(c0:Nat)(hp:vZ U I K f cap p nx xs c0)(hl:xs.length≤1000):∀(d k:Nat) (s:σ) (c m:Nat),k+d=xs.length→d<m→c0≤c→I s →
  ∃(c':Nat) (j:Int),c≤c'∧0≤j∧BC (AE Tryz.prog ann kn (n+K+50) 19) R7 (ann 19 (BR R7)) m ⟨c,[(0,true,.list false (xs.map AG)),(1,true,.fn f [] cap),(7,true,i xs.length),(8,true,i k)],⟨U s,[]⟩⟩ =
   bif (BB p nx s (xs.drop k)).1 then some (.ret,⟨c',[(4,true,i j),(17,true,i j),(5,true,i j)],⟨U (BB p nx s (xs.drop k)).2,[]⟩⟩)
   else some (.exit 0,⟨c',[(9,true,.bool false),(0,true,.list false (xs.map AG)),(1,true,.fn f [] cap),(7,true,i xs.length),(8,true,i xs.length)],⟨U (BB p nx s (xs.drop k)).2,[]⟩⟩)
 |0,k,s,c,m+1,hd,hm,hc0,hi=>by
  have:k=xs.length:=by omega
  subst this;refine⟨c,0,Nat.le_refl _,by omega,?_⟩;simp[AC,BB]
 |d+1,k,s,c,m+1,hd,hm,hc0,hi=>by
  have hk:k<xs.length:=by omega
  have hw:=BH (k:=k) (by omega);have nrm:∀a:Nat,n+K+a=(n+a)+K:=fun a=>by omega
  rw[AC,List.drop_eq_getElem_cons hk];simp only[BB];obtain⟨hi',c1,hc1,q⟩:=hp (n+43) c [(15,true,.agg (AG xs[k])),(14,true,.ref (AG xs[k])),(13,true,i k),(12,true,.list false (xs.map AG)),(11,true,.fn f [] cap),(0,true,.list false (xs.map AG)),(1,true,.fn f [] cap),(5,true,i k),(7,true,i xs.length),(8,true,i k)] s xs[k] hc0 hi (List.getElem_mem hk);generalize e:p s xs[k]=b at q hi';cases b with
  |true=>
   refine⟨c1,k,hc1,by omega,?_⟩
   try simp only[AG]at q
   rw[←nrm]at q
   try simp at q
   simp[hk,hw,AG,q,hcw]
  |false=>
   obtain⟨c',j,h1,h2,ih⟩:=wA n K U I f cap hcw p nx xs c0 hp hl d (k+1) (nx s xs[k]) c1 m (by omega) (by omega) (by omega) (hi' rfl)
   refine⟨c',j,by omega,h2,?_⟩
   try simp only[AG]at q ih
   rw[←nrm]at q
   try simp at q
   simp at ih
   simp[hk,hw,AG,q,ih,hcw]
theorem ALE{σ:Type}(n K:Nat)(up:σ→List AA)(loc:σ→AA)(I:σ→Prop)(f:FuncId)(cap:List V)(hcw:cap.map weakV=cap)(hco:cap.all (AK 8)=false)(p:σ→Int×Int→Bool)(nx:σ→Int×Int→σ)(xs:List (Int×Int))(c0:Nat)(hp:vZ (fun s=>up s++[loc s]) I K f cap p nx xs c0)(hl:xs.length≤40)(hsh:∀s (t:St),(up s).length+1≤t.up.length→(up s++[loc s]).map (AL t)=up s++[loc s])(c dd:Nat)(fr:Fr)(s:σ)(hc0:c0≤c)(hi:I s) :
  ∃(c':Nat) (j:Int),c≤c'∧decide (0≤j)=(BB p nx s xs).1∧G4 (BN Tryz.prog ann kn (n+K+100)) (some dd) ⟨c,fr,⟨up s,loc s⟩⟩ 193 [.list false (xs.map AG),.fn f [] cap]=some ⟨c',(dd,true,i j)::fr,⟨up (BB p nx s xs).2,loc (BB p nx s xs).2⟩⟩:=by
 obtain⟨c1,j,h1,h2,q⟩:=wA (n+45) K (fun s=>up s++[loc s]) I f cap hcw p nx xs c0 hp (by omega) xs.length 0 s c (n+K+95) (by omega) (by omega) hc0 hi
 have e:n+45+K+50=n+K+95:=by omega
 rw[e]at q
 have hcl:([V.list false (xs.map AG),V.fn f [] cap]).all (AK 9)=false:=by simp[hco]
 have hs:=fun s=>hsh s ⟨up s++[loc s],[]⟩ (by simp)
 simp at hs
 rw[A7 Tryz.func193 b193 rfl hcl]
 simp only[List.drop_zero]at q
 generalize (BB p nx s xs).2=s' at q⊢
 generalize e:(BB p nx s xs).1=b at q
 cases b with
 |true=>
  refine⟨c1,j,h1,by simpa using h2,?_⟩
  simp at q
  simp[APS,AF,q,hs]
 |false=>
  refine⟨c1,-1,h1,by simp,?_⟩
  simp at q
  simp[APS,AF,q,hs]
theorem A8V{σ:Type}(n K:Nat)(up:σ→List AA)(loc:σ→AA)(I:σ→Prop)(f:FuncId)(cap:List V)(hcw:cap.map weakV=cap)(hco:cap.all (AK 8)=false)(p:σ→Int×Int→Bool)(nx:σ→Int×Int→σ)(xs:List (Int×Int))(c0:Nat)(hp:vZ (fun s=>up s++[loc s]++[[]]) I K f cap p nx xs c0)(hl:xs.length≤40)(hsh:∀s (t:St),(up s).length+1≤t.up.length→(up s++[loc s]).map (AL t)=up s++[loc s])(c dd:Nat)(fr:Fr)(s:σ)(hc0:c0≤c)(hi:I s) :
  ∃c':Nat,c≤c'∧G4 (BN Tryz.prog ann kn (n+K+200)) (some dd) ⟨c,fr,⟨up s,loc s⟩⟩ 182 [.list false (xs.map AG),.fn f [] cap]=some ⟨c',(dd,true,.bool (BB p nx s xs).1)::fr,⟨up (BB p nx s xs).2,loc (BB p nx s xs).2⟩⟩:=by
 have hcl:([V.list false (xs.map AG),V.fn f [] cap]).all (AK 9)=false:=by simp[hco]
 have hsh2:∀s (t:St),(up s++[loc s]).length+1≤t.up.length→(up s++[loc s]++[[]]).map (AL t)=up s++[loc s]++[[]]:=fun s t h=>by have:=hsh s t (by simp at h;omega);simp only[List.map_append,List.map_cons,List.map_nil,C5]at this⊢;rw[this]
 obtain⟨c1,j,h1,h2,q⟩:=ALE (n+97) K (fun s=>up s++[loc s]) (fun _=>[]) I f cap hcw hco p nx xs c0 hp hl hsh2 c 7 [(6,true,.fn f [] cap),(5,true,.list false (xs.map AG)),(0,true,.list false (xs.map AG)),(1,true,.fn f [] cap)] s hc0 hi
 refine⟨c1,h1,?_⟩
 have e:n+97+K+100=n+K+197:=by omega
 rw[e]at q
 have hs:=fun s=>hsh s ⟨up s++[loc s],[]⟩ (by simp)
 simp at hs
 rw[A7 Tryz.func182 b182 rfl hcl]
 simp[A1I,AF,hcw,q,h2,hs]
theorem A8W(n K:Nat)(b:AJ)(f:FuncId)(p:Int×Int→Bool)(xs:List (Int×Int))(hl:xs.length≤40)(hf:∀n x,x∈xs→AW Tryz.prog kn (AE Tryz.prog ann kn (n+K)) f [.agg (AB b),.agg (AG x)]=some (.bool (p x)))(hh:BE Tryz.prog f=false:=by simp) :
  AW Tryz.prog kn (AE Tryz.prog ann kn (n+K+300)) 150 [.list false (xs.map AG),.fn f [.agg (AB b)] []]=some (.bool (xs.all p)):=by
 rw[AQ rfl,AP Tryz.func150 BDA rfl (by simp[AB,AH,AM,AG])]
 have hp2:vZ (fun (_:Unit)=>[]++[[(3,0,AZ.box [V.fn f [.agg (AB b)] []])]]++[[]]) (fun _=>True) (K+20) 183 [.ptr 0 3 0 0] (fun _ x=>!p x) (fun _ _=>()) xs 0:=by
  intro n c1 fr s x hc0 hi hx;refine⟨fun _=>trivial,c1+1,by omega,?_⟩;have q:=fun n=>hf n x hx;have q2:=q (n+17);have e:n+17+K=n+K+17:=by omega
  rw[e]at q2;simp only[AB,AG]at q2⊢;try simp[AH]at q2
  rw[show n+(K+20)=n+K+20 from by omega,List.nil_append,A7 Tryz.func183 b183 rfl (by simp)];simp[A1K,AF,AB,AH,AM,AG,q2,hh];try simp[AB,AH,AM,AG,q2,hh]
 obtain⟨c',h1,q⟩:=A8V (n+77) (K+20) (fun _=>[]) (fun _=>[(3,0,.box [.fn f [.agg (AB b)] []])]) (fun _=>True) 183 [.ptr 0 3 0 0] (by simp) (by simp) (fun _ x=>!p x) (fun _ _=>()) xs 0 hp2 hl (by simp[AB,AH,AM,AG]) 1 7 [(6,true,.fn 183 [] [.ptr 0 3 0 0]),(5,true,.list false (xs.map AG)),(0,true,.list false (xs.map AG)),(1,true,.fn f [.agg (AB b)] []),(3,true,.ptr 0 3 0 0)] () (Nat.zero_le _) trivial
 have e:n+77+(K+20)+200=n+K+297:=by omega
 rw[e,E2]at q
 have:=IG p xs
 simp only[AB]at q⊢
 simp[A1J,AF,q]
 rw[←this,Bool.not_not]
end Go.Proofs.Tryz.Op
